/- Walks of the functions of the seat over those rules, and plain laws of what they compute. No conditions beyond those in each theorem. -/
import Derived.Test.YtclhjichmdjlaaaGreatSC
import Derived.Test.YtclhjichmdjlaaaGreatEC
set_option linter.unusedSimpArgs false
set_option linter.unusedVariables false
namespace Go.Eng
open Go.RowKit Go.Proofs
structure TopoD where
  kind:Int
  w:Int
  h:Int
  turn:Int
  shift:Int
abbrev topoC (t:TopoD):List Value:=[.int .u8 t.kind,.int .i64 t.w,.int .i64 t.h,.int .u8 t.turn,.int .i64 t.shift]
structure TopoD.Wd (t:TopoD):Prop where
  kind:U8 t.kind
  w:I64 t.w
  h:I64 t.h
  turn:U8 t.turn
  shift:I64 t.shift
def TopoD.Ok (t:TopoD):Prop:=(1≤t.kind∧t.kind≤5)∧(0≤t.w∧t.w≤65536∧0≤t.h∧t.h≤65536)∧(t.kind=5→t.w=t.h)∧(3≤t.kind→t.w≠0∧t.h≠0)∧t.turn≤2∧(t.kind=1∨4≤t.kind→t.turn=0)∧(t.kind=3→t.turn≠0)∧
  (t.turn=0→t.shift=0)∧(t.turn≠0→t.turn≠2→-t.w<t.shift∧t.shift<t.w)∧(t.turn=2→-t.h<t.shift∧t.shift<t.h)∧(t.turn≠0→t.kind=2→t.shift≠0∧t.w≠0∧t.h≠0)
section
variable {k:World} {h0:Hp}
set_option maxRecDepth 10000 in
theorem topo_turned (t:TopoD) (n:Int) (h1:t.turn=2→n=t.h) (h2:t.turn≠2→n=t.w):FT Pg 142 [.agg (topoC t).toArray] k h0 [] (Is (.int .i64 n)):=by
  refine FT.of_wp (n:=10) Tryz.func142 rfl rfl rfl<|WP.regs<|L.box rfl rfl fun b1=>L.assign rfl<|WL.nil<|WP.seq<|WP.regs<|L.fieldAddr (o':=3) T34.f3 rfl rfl<|L.load T5.sc rfl (Rd.own 0 rfl rfl)<|L.eql rfl rfl<|WL.nil<|WP.condD rfl (fun h5=>?_) (fun h5=>?_);refine WP.regs<|L.fieldAddr (o':=2) T34.f2 rfl rfl<|L.load T3.sc rfl (Rd.own 0 rfl rfl)<|L.assign rfl<|WL.nil<|WP.ret<|X.thenR<|X.ret rfl (Res.one rfl rfl) ?_
  show _=_
  rw[h1 h5]
  refine WP.skip<|X.thenN<|WP.regs<|L.fieldAddr (o':=1) T34.f1 rfl rfl<|L.load T3.sc rfl (Rd.own 0 rfl rfl)<|L.assign rfl<|WL.nil<|WP.ret<|X.ret rfl (Res.one rfl rfl) ?_
  show _=_
  rw[h2 h5]
theorem topo_turned' (t:TopoD):∃ n:Int,(t.turn=2→n=t.h)∧(t.turn≠2→n=t.w)∧∀ k h0,FT Pg 142 [.agg (topoC t).toArray] k h0 [] (Is (.int .i64 n)):=by
  by_cases h:t.turn=2
  · exact⟨t.h,fun _=>rfl,fun e=>absurd h e,fun k h0=>topo_turned t _ (fun _=>rfl) (fun e=>absurd h e)⟩
  · exact⟨t.w,fun e=>absurd e h,fun _=>rfl,fun k h0=>topo_turned t _ (fun e=>absurd e h) (fun _=>rfl)⟩
set_option maxRecDepth 10000 in
theorem topo_Check (t:TopoD) (hw:t.Wd):FT Pg 103 [.agg (topoC t).toArray] k h0 [] (RV fun v=>∃ e:Int,v=.int .i64 e∧(e=0↔t.Ok)):=by
  have hk:=hw.kind;have hww:=hw.w;have hhh:=hw.h;have htt:=hw.turn;have hss:=hw.shift
  unfold U8 at hk htt;unfold I64 at hww hhh hss
  refine FT.of_wp (n:=119) Tryz.func103 rfl rfl rfl<|WP.regs<|L.box rfl rfl fun b1=>L.assign rfl<|WL.nil<|WP.seq<|WP.regs<|L.fieldAddr (o':=0) T34.f0 rfl rfl<|L.load T5.sc rfl (Rd.own 0 rfl rfl)<|L.lssD rfl rfl (fun h7=>?_) (fun h7=>?_);refine L.move rfl<|L.skip<|L.skip<|L.skip<|L.pickT rfl rfl<|WL.nil<|WP.condT rfl<|WP.regs<|L.assign rfl<|WL.nil<|WP.ret<|X.thenR<|X.ret rfl (Res.one rfl rfl) ?_;rotate_left;refine L.move rfl<|L.fieldAddr (o':=0) T34.f0 rfl rfl<|L.load T5.sc rfl (Rd.own 0 rfl rfl)<|L.gtr rfl rfl<|L.pickF rfl rfl<|WL.nil<|WP.condD rfl (fun h12=>?_) (fun h12=>?_);refine WP.regs<|L.assign rfl<|WL.nil<|WP.ret<|X.thenR<|X.ret rfl (Res.one rfl rfl) ?_;rotate_left
  refine WP.skip<|X.thenN<|WP.seq<|WP.regs<|L.fieldAddr (o':=1) T34.f1 rfl rfl<|L.load T3.sc rfl (Rd.own 0 rfl rfl)<|L.lssD rfl rfl (fun h15=>?_) (fun h15=>?_);refine L.move rfl<|L.skip<|L.skip<|L.skip<|L.pickT rfl rfl<|L.move rfl<|L.skip<|L.skip<|L.skip<|L.pickT rfl rfl<|L.move rfl<|L.skip<|L.skip<|L.skip<|L.pickT rfl rfl<|WL.nil<|WP.condT rfl<|WP.regs<|L.assign rfl<|WL.nil<|WP.ret<|X.thenR<|X.ret rfl (Res.one rfl rfl) ?_;rotate_left;refine L.move rfl<|L.fieldAddr (o':=1) T34.f1 rfl rfl<|L.load T3.sc rfl (Rd.own 0 rfl rfl)<|L.gtrD rfl rfl (fun h19=>?_) (fun h19=>?_)
  refine L.pickF rfl rfl<|L.move rfl<|L.skip<|L.skip<|L.skip<|L.pickT rfl rfl<|L.move rfl<|L.skip<|L.skip<|L.skip<|L.pickT rfl rfl<|WL.nil<|WP.condT rfl<|WP.regs<|L.assign rfl<|WL.nil<|WP.ret<|X.thenR<|X.ret rfl (Res.one rfl rfl) ?_;rotate_left;refine L.pickF rfl rfl<|L.move rfl<|L.fieldAddr (o':=2) T34.f2 rfl rfl<|L.load T3.sc rfl (Rd.own 0 rfl rfl)<|L.lssD rfl rfl (fun h24=>?_) (fun h24=>?_);refine L.pickF rfl rfl<|L.move rfl<|L.skip<|L.skip<|L.skip<|L.pickT rfl rfl<|WL.nil<|WP.condT rfl<|WP.regs<|L.assign rfl<|WL.nil<|WP.ret<|X.thenR<|X.ret rfl (Res.one rfl rfl) ?_;rotate_left
  refine L.pickF rfl rfl<|L.move rfl<|L.fieldAddr (o':=2) T34.f2 rfl rfl<|L.load T3.sc rfl (Rd.own 0 rfl rfl)<|L.gtr rfl rfl<|L.pickF rfl rfl<|WL.nil<|WP.condD rfl (fun h30=>?_) (fun h30=>?_);refine WP.regs<|L.assign rfl<|WL.nil<|WP.ret<|X.thenR<|X.ret rfl (Res.one rfl rfl) ?_;rotate_left;refine WP.skip<|X.thenN<|WP.regs<|L.assign rfl<|WL.nil<|WP.cut (X:=Bool) (fun x=>⟨119,[],[(1,.pointer (some ⟨b1,0,none⟩)),(3,.bool x)]⟩) (fun x=>[cl b1 (topoC t) 34]) (fun x=>(¬ (t.kind<1)∧t.kind≤5∧0≤t.w∧t.w≤65536∧0≤t.h∧t.h≤65536)∧(t.kind=5→t.w=t.h)∧(3≤t.kind→t.w≠0∧t.h≠0)∧(x=true↔t.kind=2∨t.kind=3)) ?_ ?_
  refine WP.regs<|L.fieldAddr (o':=0) T34.f0 rfl rfl<|L.load T5.sc rfl (Rd.own 0 rfl rfl)<|WL.nil<|WP.block<|WP.seq<|WP.block<|WP.seq<|WP.block<|WP.seq<|WP.block<|WP.seq<|WP.block<|WP.seq<|WP.seq<|WP.regs<|L.eql rfl rfl<|L.assign rfl<|WL.nil<|WP.condD rfl (fun h33=>?_) (fun h33=>?_);refine WP.exit<|X.thenE (X.thenE (X.blockE ?_));refine X.thenN<|WP.regs<|L.fieldAddr (o':=1) T34.f1 rfl rfl<|L.load T3.sc rfl (Rd.own 0 rfl rfl)<|L.fieldAddr (o':=2) T34.f2 rfl rfl<|L.load T3.sc rfl (Rd.own 0 rfl rfl)<|L.neq rfl rfl<|WL.nil<|WP.condD rfl (fun h45=>?_) (fun h45=>?_)
  refine WP.regs<|L.assign rfl<|WL.nil<|WP.ret<|X.blockR (X.thenR (X.blockR (X.thenR (X.blockR (X.thenR (X.blockR (X.thenR ?_)))))));refine X.ret rfl (Res.one rfl rfl) ?_;rotate_left;refine WP.skip<|X.blockN<|X.thenN<|WP.region<|L.assign rfl<|WL.nil<|X.blockN<|X.thenN<|WP.seq<|WP.regs<|L.fieldAddr (o':=1) T34.f1 rfl rfl<|L.load T3.sc rfl (Rd.own 0 rfl rfl)<|L.eqlD rfl rfl (fun h48=>?_) (fun h48=>?_);refine L.move rfl<|L.skip<|L.skip<|L.skip<|L.pickT rfl rfl<|WL.nil<|WP.condT rfl<|WP.regs<|L.assign rfl<|WL.nil<|WP.ret<|X.thenR (X.blockR (X.thenR (X.blockR (X.thenR ?_))));refine X.ret rfl (Res.one rfl rfl) ?_;rotate_left
  refine L.move rfl<|L.fieldAddr (o':=2) T34.f2 rfl rfl<|L.load T3.sc rfl (Rd.own 0 rfl rfl)<|L.eql rfl rfl<|L.pickF rfl rfl<|WL.nil<|WP.condD rfl (fun h53=>?_) (fun h53=>?_);refine WP.regs<|L.assign rfl<|WL.nil<|WP.ret<|X.thenR (X.blockR (X.thenR (X.blockR (X.thenR ?_))));refine X.ret rfl (Res.one rfl rfl) ?_;rotate_left;refine WP.skip<|X.thenN<|WP.exit<|X.blockF rfl (X.thenE (X.blockE ?_));refine X.thenN ⟨_,⟨by omega,by omega,by omega,by simp;omega⟩,(Env.Sub.cons rfl rfl (Env.Sub.cons rfl rfl Env.Sub.nil)),Ent.refl _⟩;refine WP.skip<|X.thenN<|WP.seq<|WP.regs<|L.eql rfl rfl<|L.assign rfl<|WL.nil<|WP.condD rfl (fun h35=>?_) (fun h35=>?_)
  refine WP.exit<|X.thenE (X.thenE (X.blockF rfl (X.thenE (X.blockE ?_))));refine X.thenN<|WP.region<|L.assign rfl<|WL.nil<|X.blockN<|X.thenN<|WP.seq<|WP.regs<|L.fieldAddr (o':=1) T34.f1 rfl rfl<|L.load T3.sc rfl (Rd.own 0 rfl rfl)<|L.eqlD rfl rfl (fun h48=>?_) (fun h48=>?_);refine L.move rfl<|L.skip<|L.skip<|L.skip<|L.pickT rfl rfl<|WL.nil<|WP.condT rfl<|WP.regs<|L.assign rfl<|WL.nil<|WP.ret<|X.thenR (X.blockR (X.thenR (X.blockR (X.thenR ?_))));refine X.ret rfl (Res.one rfl rfl) ?_;rotate_left;refine L.move rfl<|L.fieldAddr (o':=2) T34.f2 rfl rfl<|L.load T3.sc rfl (Rd.own 0 rfl rfl)<|L.eql rfl rfl<|L.pickF rfl rfl<|WL.nil<|WP.condD rfl (fun h53=>?_) (fun h53=>?_)
  refine WP.regs<|L.assign rfl<|WL.nil<|WP.ret<|X.thenR (X.blockR (X.thenR (X.blockR (X.thenR ?_))));refine X.ret rfl (Res.one rfl rfl) ?_;rotate_left;refine WP.skip<|X.thenN<|WP.exit<|X.blockF rfl (X.thenE (X.blockE ?_));refine X.thenN ⟨_,⟨by omega,by omega,by omega,by simp;omega⟩,(Env.Sub.cons rfl rfl (Env.Sub.cons rfl rfl Env.Sub.nil)),Ent.refl _⟩;refine WP.skip<|X.thenN<|WP.seq<|WP.regs<|L.eql rfl rfl<|L.assign rfl<|WL.nil<|WP.condD rfl (fun h37=>?_) (fun h37=>?_);refine WP.exit<|X.thenE (X.thenE (X.blockF rfl (X.thenE (X.blockF rfl (X.thenE (X.blockE ?_))))))
  refine X.thenN<|WP.seq<|WP.regs<|L.fieldAddr (o':=1) T34.f1 rfl rfl<|L.load T3.sc rfl (Rd.own 0 rfl rfl)<|L.eqlD rfl rfl (fun h48=>?_) (fun h48=>?_);refine L.move rfl<|L.skip<|L.skip<|L.skip<|L.pickT rfl rfl<|WL.nil<|WP.condT rfl<|WP.regs<|L.assign rfl<|WL.nil<|WP.ret<|X.thenR (X.blockR (X.thenR (X.blockR (X.thenR ?_))));refine X.ret rfl (Res.one rfl rfl) ?_;rotate_left;refine L.move rfl<|L.fieldAddr (o':=2) T34.f2 rfl rfl<|L.load T3.sc rfl (Rd.own 0 rfl rfl)<|L.eql rfl rfl<|L.pickF rfl rfl<|WL.nil<|WP.condD rfl (fun h53=>?_) (fun h53=>?_);refine WP.regs<|L.assign rfl<|WL.nil<|WP.ret<|X.thenR (X.blockR (X.thenR (X.blockR (X.thenR ?_))));refine X.ret rfl (Res.one rfl rfl) ?_
  rotate_left
  refine WP.skip<|X.thenN<|WP.exit<|X.blockF rfl (X.thenE (X.blockE ?_));refine X.thenN ⟨_,⟨by omega,by omega,by omega,by simp;omega⟩,(Env.Sub.cons rfl rfl (Env.Sub.cons rfl rfl Env.Sub.nil)),Ent.refl _⟩;refine WP.skip<|X.thenN<|WP.regs<|L.eql rfl rfl<|L.assign rfl<|WL.nil<|WP.condD rfl (fun h39=>?_) (fun h39=>?_);refine WP.exit<|X.thenE (X.blockF rfl (X.thenE (X.blockF rfl (X.thenE (X.blockF rfl (X.thenE (X.blockE ?_)))))));refine X.thenN<|WP.regs<|L.assign rfl<|WL.nil<|WP.exit<|X.blockE<|X.thenN ⟨_,⟨by omega,by omega,by omega,by simp;omega⟩,(Env.Sub.cons rfl rfl (Env.Sub.cons rfl rfl Env.Sub.nil)),Ent.refl _⟩
  refine WP.skip<|X.thenN<|WP.exit<|X.blockF rfl (X.thenE (X.blockF rfl (X.thenE (X.blockF rfl (X.thenE (X.blockF rfl (X.thenE (X.blockE ?_))))))));refine X.thenN ⟨_,⟨by omega,by omega,by omega,by simp;omega⟩,(Env.Sub.cons rfl rfl (Env.Sub.cons rfl rfl Env.Sub.nil)),Ent.refl _⟩
  rintro x ⟨hkk,hx5,hx3,hx⟩
  refine WP.seq<|WP.block<|WP.cut (X:=Bool) (fun y=>⟨119,[],[(1,.pointer (some ⟨b1,0,none⟩)),(54,.bool y)]⟩) (fun y=>[cl b1 (topoC t) 34]) (fun y=>(y=true↔2<t.turn∨((t.kind=1∨4≤t.kind)∧t.turn≠0)∨(t.kind=3∧t.turn=0))) ?_ ?_;refine WP.regs<|L.fieldAddr (o':=3) T34.f3 rfl rfl<|L.load T5.sc rfl (Rd.own 0 rfl rfl)<|L.gtr rfl rfl<|L.assign rfl<|WL.nil<|WP.condD rfl (fun h54=>?_) (fun h54=>?_)
  try (have hy1:=hy.1 h54)
  refine WP.skip ?_
  try simp only[Bool.false_eq_true,true_iff,false_iff] at hx
  refine X.thenN ⟨_,by simp only[decide_eq_true_eq,Bool.false_eq_true,false_iff,true_iff];omega,(Env.Sub.cons rfl rfl (Env.Sub.cons rfl rfl Env.Sub.nil)),Ent.refl _⟩
  try (have hy1:=mt hy.2 (by rw[h54];simp))
  refine WP.regs<|L.move rfl ?_
  rcases Bool.eq_false_or_eq_true x with rfl | rfl
  refine L.not rfl<|L.move rfl<|L.skip<|L.skip<|L.skip<|L.pickF rfl rfl<|L.assign rfl<|WL.nil<|WP.condF rfl<|WP.region<|L.fieldAddr (o':=0) T34.f0 rfl rfl<|L.load T5.sc rfl (Rd.own 0 rfl rfl)<|L.eqlD rfl rfl (fun h67=>?_) (fun h67=>?_);refine L.move rfl<|L.fieldAddr (o':=3) T34.f3 rfl rfl<|L.load T5.sc rfl (Rd.own 0 rfl rfl)<|L.eql rfl rfl<|L.pickT rfl rfl<|L.assign rfl<|WL.nil ?_
  try simp only[Bool.false_eq_true,true_iff,false_iff] at hx
  refine X.thenN ⟨_,by simp only[decide_eq_true_eq,Bool.false_eq_true,false_iff,true_iff];omega,(Env.Sub.cons rfl rfl (Env.Sub.cons rfl rfl Env.Sub.nil)),Ent.refl _⟩;refine L.move rfl<|L.skip<|L.skip<|L.skip<|L.pickF rfl rfl<|L.assign rfl<|WL.nil ?_
  try simp only[Bool.false_eq_true,true_iff,false_iff] at hx
  refine X.thenN ⟨_,by simp only[decide_eq_true_eq,Bool.false_eq_true,false_iff,true_iff];omega,(Env.Sub.cons rfl rfl (Env.Sub.cons rfl rfl Env.Sub.nil)),Ent.refl _⟩;refine L.not rfl<|L.move rfl<|L.fieldAddr (o':=3) T34.f3 rfl rfl<|L.load T5.sc rfl (Rd.own 0 rfl rfl)<|L.neq rfl rfl<|L.pickT rfl rfl<|L.assign rfl<|WL.nil<|WP.condD rfl (fun h54=>?_) (fun h54=>?_)
  try (have hy1:=hy.1 h54)
  refine WP.skip ?_
  try simp only[Bool.false_eq_true,true_iff,false_iff] at hx
  refine X.thenN ⟨_,by simp only[decide_eq_true_eq,Bool.false_eq_true,false_iff,true_iff];omega,(Env.Sub.cons rfl rfl (Env.Sub.cons rfl rfl Env.Sub.nil)),Ent.refl _⟩
  try (have hy1:=mt hy.2 (by rw[h54];simp))
  refine WP.region<|L.fieldAddr (o':=0) T34.f0 rfl rfl<|L.load T5.sc rfl (Rd.own 0 rfl rfl)<|L.eqlD rfl rfl (fun h67=>?_) (fun h67=>?_);refine L.move rfl<|L.fieldAddr (o':=3) T34.f3 rfl rfl<|L.load T5.sc rfl (Rd.own 0 rfl rfl)<|L.eql rfl rfl<|L.pickT rfl rfl<|L.assign rfl<|WL.nil ?_
  try simp only[Bool.false_eq_true,true_iff,false_iff] at hx
  refine X.thenN ⟨_,by simp only[decide_eq_true_eq,Bool.false_eq_true,false_iff,true_iff];omega,(Env.Sub.cons rfl rfl (Env.Sub.cons rfl rfl Env.Sub.nil)),Ent.refl _⟩;refine L.move rfl<|L.skip<|L.skip<|L.skip<|L.pickF rfl rfl<|L.assign rfl<|WL.nil ?_
  try simp only[Bool.false_eq_true,true_iff,false_iff] at hx
  refine X.thenN ⟨_,by simp only[decide_eq_true_eq,Bool.false_eq_true,false_iff,true_iff];omega,(Env.Sub.cons rfl rfl (Env.Sub.cons rfl rfl Env.Sub.nil)),Ent.refl _⟩
  rintro y hy
  refine WP.cond rfl (fun h54=>?_) (fun h54=>?_)
  try (have hy1:=hy.1 h54)
  refine WP.regs<|L.assign rfl<|WL.nil<|WP.ret<|X.blockR (X.thenR ?_);refine X.ret rfl (Res.one rfl rfl) ?_;rotate_left
  try (have hy1:=mt hy.2 (by rw[h54];simp))
  refine WP.regs<|L.fieldAddr (o':=3) T34.f3 rfl rfl<|L.load T5.sc rfl (Rd.own 0 rfl rfl)<|L.eqlD rfl rfl (fun h76=>?_) (fun h76=>?_);refine L.move rfl<|L.fieldAddr (o':=4) T34.f4 rfl rfl<|L.load T3.sc rfl (Rd.own 0 rfl rfl)<|L.neq rfl rfl<|L.pickT rfl rfl<|L.assign rfl<|WL.nil<|WP.condD rfl (fun h73=>?_) (fun h73=>?_);refine WP.regs<|L.assign rfl<|WL.nil<|WP.ret<|X.blockR (X.thenR ?_);refine X.ret rfl (Res.one rfl rfl) ?_;rotate_left;refine WP.regs<|L.fieldAddr (o':=3) T34.f3 rfl rfl<|L.load T5.sc rfl (Rd.own 0 rfl rfl)<|L.eql rfl rfl<|L.assign rfl<|WL.nil<|WP.condD rfl (fun h82=>?_) (fun h82=>?_);refine WP.regs<|L.assign rfl<|WL.nil<|WP.ret<|X.blockR (X.thenR ?_)
  refine X.ret rfl (Res.one rfl rfl) ?_;rotate_left;refine WP.skip<|X.blockN<|X.thenN<|WP.regs<|L.loadN T34.ag rfl rfl (Rds.all 0 rfl) ?_
  obtain⟨n,hn1,hn2,hns⟩:=topo_turned' t
  refine WL.callV rfl rfl F142.fn rfl (fun g gS dj=>hns _ _)<|L.assign rfl<|WL.nil<|WP.seq<|WP.regs<|L.fieldAddr (o':=4) T34.f4 rfl rfl<|L.load T3.sc rfl (Rd.own 0 rfl rfl)<|L.move rfl<|L.neg' rfl (by omega)<|L.leqD rfl rfl (fun h92=>?_) (fun h92=>?_);refine L.move rfl<|L.skip<|L.skip<|L.skip<|L.skip<|L.pickT rfl rfl<|L.move rfl ?_
  iterate 18 refine L.skip ?_
  refine L.pickT rfl rfl<|WL.nil<|WP.condT rfl<|WP.regs<|L.assign rfl<|WL.nil<|WP.ret<|X.thenR<|X.ret rfl (Res.one rfl rfl) ?_;rotate_left;refine L.move rfl<|L.fieldAddr (o':=4) T34.f4 rfl rfl<|L.load T3.sc rfl (Rd.own 0 rfl rfl)<|L.move rfl<|L.geqD rfl rfl (fun h97=>?_) (fun h97=>?_);refine L.pickF rfl rfl<|L.move rfl ?_
  iterate 18 refine L.skip ?_
  refine L.pickT rfl rfl<|WL.nil<|WP.condT rfl<|WP.regs<|L.assign rfl<|WL.nil<|WP.ret<|X.thenR<|X.ret rfl (Res.one rfl rfl) ?_;rotate_left;refine L.pickF rfl rfl<|L.move rfl<|L.fieldAddr (o':=0) T34.f0 rfl rfl<|L.load T5.sc rfl (Rd.own 0 rfl rfl)<|L.eqlD rfl rfl (fun h102=>?_) (fun h102=>?_);refine L.move rfl<|L.fieldAddr (o':=4) T34.f4 rfl rfl<|L.load T3.sc rfl (Rd.own 0 rfl rfl)<|L.eqlD rfl rfl (fun h106=>?_) (fun h106=>?_);refine L.move rfl<|L.skip<|L.skip<|L.skip<|L.pickT rfl rfl<|L.move rfl<|L.skip<|L.skip<|L.skip<|L.pickT rfl rfl<|L.pickT rfl rfl<|L.pickF rfl rfl<|WL.nil<|WP.condT rfl<|WP.regs<|L.assign rfl<|WL.nil<|WP.ret<|X.thenR<|X.ret rfl (Res.one rfl rfl) ?_
  rotate_left
  refine L.move rfl<|L.fieldAddr (o':=1) T34.f1 rfl rfl<|L.load T3.sc rfl (Rd.own 0 rfl rfl)<|L.eqlD rfl rfl (fun h110=>?_) (fun h110=>?_);refine L.pickF rfl rfl<|L.move rfl<|L.skip<|L.skip<|L.skip<|L.pickT rfl rfl<|L.pickT rfl rfl<|L.pickF rfl rfl<|WL.nil<|WP.condT rfl<|WP.regs<|L.assign rfl<|WL.nil<|WP.ret<|X.thenR<|X.ret rfl (Res.one rfl rfl) ?_;rotate_left;refine L.pickF rfl rfl<|L.move rfl<|L.fieldAddr (o':=2) T34.f2 rfl rfl<|L.load T3.sc rfl (Rd.own 0 rfl rfl)<|L.eql rfl rfl<|L.pickF rfl rfl<|L.pickT rfl rfl<|L.pickF rfl rfl<|WL.nil<|WP.condD rfl (fun h118=>?_) (fun h118=>?_);refine WP.regs<|L.assign rfl<|WL.nil<|WP.ret<|X.thenR<|X.ret rfl (Res.one rfl rfl) ?_;rotate_left
  refine WP.skip<|X.thenN<|WP.regs<|L.assign rfl<|WL.nil<|WP.ret<|X.ret rfl (Res.one rfl rfl) ?_;rotate_left;refine L.move rfl ?_
  iterate 13 refine L.skip ?_
  refine L.pickF rfl rfl<|L.pickF rfl rfl<|WL.nil<|WP.condF rfl<|WP.skip<|X.thenN<|WP.regs<|L.assign rfl<|WL.nil<|WP.ret<|X.ret rfl (Res.one rfl rfl) ?_;rotate_left;refine L.move rfl<|L.skip<|L.skip<|L.skip<|L.pickF rfl rfl<|L.assign rfl<|WL.nil<|WP.condF rfl<|WP.regs<|L.fieldAddr (o':=3) T34.f3 rfl rfl<|L.load T5.sc rfl (Rd.own 0 rfl rfl)<|L.eql rfl rfl<|L.assign rfl<|WL.nil<|WP.condD rfl (fun h82=>?_) (fun h82=>?_);refine WP.regs<|L.assign rfl<|WL.nil<|WP.ret<|X.blockR (X.thenR ?_);refine X.ret rfl (Res.one rfl rfl) ?_;rotate_left;refine WP.skip<|X.blockN<|X.thenN<|WP.regs<|L.loadN T34.ag rfl rfl (Rds.all 0 rfl) ?_
  obtain⟨n,hn1,hn2,hns⟩:=topo_turned' t
  refine WL.callV rfl rfl F142.fn rfl (fun g gS dj=>hns _ _)<|L.assign rfl<|WL.nil<|WP.seq<|WP.regs<|L.fieldAddr (o':=4) T34.f4 rfl rfl<|L.load T3.sc rfl (Rd.own 0 rfl rfl)<|L.move rfl<|L.neg' rfl (by omega)<|L.leqD rfl rfl (fun h92=>?_) (fun h92=>?_);refine L.move rfl<|L.skip<|L.skip<|L.skip<|L.skip<|L.pickT rfl rfl<|L.move rfl ?_
  iterate 18 refine L.skip ?_
  refine L.pickT rfl rfl<|WL.nil<|WP.condT rfl<|WP.regs<|L.assign rfl<|WL.nil<|WP.ret<|X.thenR<|X.ret rfl (Res.one rfl rfl) ?_;rotate_left;refine L.move rfl<|L.fieldAddr (o':=4) T34.f4 rfl rfl<|L.load T3.sc rfl (Rd.own 0 rfl rfl)<|L.move rfl<|L.geqD rfl rfl (fun h97=>?_) (fun h97=>?_);refine L.pickF rfl rfl<|L.move rfl ?_
  iterate 18 refine L.skip ?_
  refine L.pickT rfl rfl<|WL.nil<|WP.condT rfl<|WP.regs<|L.assign rfl<|WL.nil<|WP.ret<|X.thenR<|X.ret rfl (Res.one rfl rfl) ?_;rotate_left;refine L.pickF rfl rfl<|L.move rfl<|L.fieldAddr (o':=0) T34.f0 rfl rfl<|L.load T5.sc rfl (Rd.own 0 rfl rfl)<|L.eqlD rfl rfl (fun h102=>?_) (fun h102=>?_);refine L.move rfl<|L.fieldAddr (o':=4) T34.f4 rfl rfl<|L.load T3.sc rfl (Rd.own 0 rfl rfl)<|L.eqlD rfl rfl (fun h106=>?_) (fun h106=>?_);refine L.move rfl<|L.skip<|L.skip<|L.skip<|L.pickT rfl rfl<|L.move rfl<|L.skip<|L.skip<|L.skip<|L.pickT rfl rfl<|L.pickT rfl rfl<|L.pickF rfl rfl<|WL.nil<|WP.condT rfl<|WP.regs<|L.assign rfl<|WL.nil<|WP.ret<|X.thenR<|X.ret rfl (Res.one rfl rfl) ?_
  rotate_left
  refine L.move rfl<|L.fieldAddr (o':=1) T34.f1 rfl rfl<|L.load T3.sc rfl (Rd.own 0 rfl rfl)<|L.eqlD rfl rfl (fun h110=>?_) (fun h110=>?_);refine L.pickF rfl rfl<|L.move rfl<|L.skip<|L.skip<|L.skip<|L.pickT rfl rfl<|L.pickT rfl rfl<|L.pickF rfl rfl<|WL.nil<|WP.condT rfl<|WP.regs<|L.assign rfl<|WL.nil<|WP.ret<|X.thenR<|X.ret rfl (Res.one rfl rfl) ?_;rotate_left;refine L.pickF rfl rfl<|L.move rfl<|L.fieldAddr (o':=2) T34.f2 rfl rfl<|L.load T3.sc rfl (Rd.own 0 rfl rfl)<|L.eql rfl rfl<|L.pickF rfl rfl<|L.pickT rfl rfl<|L.pickF rfl rfl<|WL.nil<|WP.condD rfl (fun h118=>?_) (fun h118=>?_);refine WP.regs<|L.assign rfl<|WL.nil<|WP.ret<|X.thenR<|X.ret rfl (Res.one rfl rfl) ?_;rotate_left
  refine WP.skip<|X.thenN<|WP.regs<|L.assign rfl<|WL.nil<|WP.ret<|X.ret rfl (Res.one rfl rfl) ?_;rotate_left;refine L.move rfl ?_
  iterate 13 refine L.skip ?_
  refine L.pickF rfl rfl<|L.pickF rfl rfl<|WL.nil<|WP.condF rfl<|WP.skip<|X.thenN<|WP.regs<|L.assign rfl<|WL.nil<|WP.ret<|X.ret rfl (Res.one rfl rfl) ?_;rotate_left
  all_goals
   first
    | (exfalso;omega)
    | exact⟨_,rfl,_,rfl,by unfold TopoD.Ok;constructor <;> intro h <;> omega⟩
set_option maxRecDepth 10000 in
theorem topo_Endless (t:TopoD) (hw:t.Wd):FT Pg 46 [.agg (topoC t).toArray] k h0 [] (RV fun v=>∃ (a b:Bool) (e:Int),v=.tuple #[.bool a,.bool b,.int .i64 e]∧(e=0↔t.Ok)∧(e=0→(a=true↔t.w=0)∧(b=true↔t.h=0))):=by
  refine FT.of_wp (n:=17) Tryz.func46 rfl rfl rfl<|WP.regs<|L.box rfl rfl fun b1=>L.assign rfl<|L.assign rfl<|L.assign rfl<|WL.nil<|WP.seq<|WP.regs<|L.loadN T34.ag rfl rfl (Rds.all 0 rfl)<|WL.call rfl rfl F103.fn rfl (FT.pureR fun g gS dj=>topo_Check t hw) ?_;rintro _ _ ⟨⟨e,rfl,he⟩,rfl⟩;refine L.assign rfl<|WL.nil<|WP.regs<|L.move rfl<|L.neq rfl rfl<|WL.nil<|WP.condD rfl (fun h9=>?_) (fun h9=>?_);refine WP.regs<|L.move rfl<|L.assign rfl<|L.assign rfl<|L.assign rfl<|WL.nil<|WP.ret<|X.thenR<|X.ret rfl (Res.three rfl rfl rfl rfl) ?_;exact⟨_,rfl,_,_,_,rfl,he,fun h=>absurd h h9⟩
  refine WP.skip<|X.thenN<|WP.seq<|WP.rege [(0,true),(1,true),(2,true),(3,true),(4,true),(5,true),(6,true),(7,true),(8,true)] 9 rfl (by kernel_rfl) (PInv.then PInv.ret) rfl<|WE.take rfl (V.fieldAddr (o':=1) T34.f1 rfl rfl)<|WE.take rfl (V.load T3.sc rfl (Rd.own 0 rfl rfl))<|WE.take rfl (V.eql rfl rfl)<|WE.take rfl (V.fieldAddr (o':=2) T34.f2 rfl rfl)<|WE.take rfl (V.load T3.sc rfl (Rd.own 0 rfl rfl))<|WE.take rfl (V.eql rfl rfl)<|WE.take rfl (V.assign rfl)<|WE.take rfl (V.assign rfl)<|WE.take rfl (V.assign rfl) ?_;refine WE.nil<|X.thenN<|WP.ret<|X.ret rfl (Res.three rfl rfl rfl rfl) ?_
  exact⟨_,rfl,_,_,_,rfl,⟨fun _=>he.1 (by omega),fun _=>rfl⟩,fun _=>⟨by simp,by simp⟩⟩
end
open Go.RowKit Go.Proofs
theorem M196_states (v:Value) (w:World):(method (Pg.types.size+Made.depth) 196 v "vivarium/rule.states").run Pg w=.ok (197,v) w:=by kernel_rfl
theorem M196_hood (v:Value) (w:World):(method (Pg.types.size+Made.depth) 196 v "vivarium/rule.hood").run Pg w=.ok (194,v) w:=by kernel_rfl
theorem M196_next (v:Value) (w:World):(method (Pg.types.size+Made.depth) 196 v "vivarium/rule.next").run Pg w=.ok (195,v) w:=by kernel_rfl
theorem M196_check (v:Value) (w:World):(method (Pg.types.size+Made.depth) 196 v "vivarium/rule.check").run Pg w=.ok (193,v) w:=by kernel_rfl
theorem MN196_next (v:Value) (w:World):(nilAhead (Pg.types.size+Made.depth) 196 v "vivarium/rule.next").run Pg w=.ok (some false) w:=by kernel_rfl
theorem M198_states (v:Value) (w:World):(method (Pg.types.size+Made.depth) 198 v "vivarium/rule.states").run Pg w=.ok (206,v) w:=by kernel_rfl
theorem M198_hood (v:Value) (w:World):(method (Pg.types.size+Made.depth) 198 v "vivarium/rule.hood").run Pg w=.ok (203,v) w:=by kernel_rfl
theorem M198_next (v:Value) (w:World):(method (Pg.types.size+Made.depth) 198 v "vivarium/rule.next").run Pg w=.ok (204,v) w:=by kernel_rfl
theorem M198_check (v:Value) (w:World):(method (Pg.types.size+Made.depth) 198 v "vivarium/rule.check").run Pg w=.ok (202,v) w:=by kernel_rfl
theorem MN198_next (v:Value) (w:World):(nilAhead (Pg.types.size+Made.depth) 198 v "vivarium/rule.next").run Pg w=.ok (some false) w:=by kernel_rfl
theorem M200_states (v:Value) (w:World):(method (Pg.types.size+Made.depth) 200 v "vivarium/rule.states").run Pg w=.ok (215,v) w:=by kernel_rfl
theorem M200_hood (v:Value) (w:World):(method (Pg.types.size+Made.depth) 200 v "vivarium/rule.hood").run Pg w=.ok (212,v) w:=by kernel_rfl
theorem M200_next (v:Value) (w:World):(method (Pg.types.size+Made.depth) 200 v "vivarium/rule.next").run Pg w=.ok (213,v) w:=by kernel_rfl
theorem M200_check (v:Value) (w:World):(method (Pg.types.size+Made.depth) 200 v "vivarium/rule.check").run Pg w=.ok (211,v) w:=by kernel_rfl
theorem MN200_next (v:Value) (w:World):(nilAhead (Pg.types.size+Made.depth) 200 v "vivarium/rule.next").run Pg w=.ok (some false) w:=by kernel_rfl
def aloneB (r:RuleD):Prop:=r.name.size=0∧r.table.states=0∧r.table.hood=0∧r.table.sym=0∧r.table.vars.length+r.table.rows.length=0
def RuleD.Ok (r:RuleD):Prop:=
  (r.kind=1∧aloneB r∧r.life.Ok∧r.gst=2)∨(r.kind=2∧aloneB r∧r.life.Ok∧2≤r.gst∧r.gst≤256)∨
  (r.kind=3∧(r.life.hood=0∧r.life.born=0∧r.life.stay=0∧r.gst=0)∧VName r.name∧r.table.Ok)
def RuleD.nSt (r:RuleD):Int:=if r.kind=1 then 2 else if r.kind=2 then r.gst else r.table.states
def RuleD.hd (r:RuleD):Int:=if r.kind=1 then r.life.hood else if r.kind=2 then r.life.hood else r.table.hood
def RuleD.nx (r:RuleD) (c:Int) (ar:List Int):Int:=if r.kind=1 then lifeNext r.life c (livingN ar) else if r.kind=2 then gensNext r.life r.gst c (livingN ar) else nextD r.table c ar
def kindV (r:RuleD) (v w:Value):Value:=
  if r.kind=1 then .iface 196 (.agg (lifeC r.life).toArray) else if r.kind=2 then .iface 198 (.agg (gensC r.life r.gst).toArray) else .iface 200 (.agg (.string r.name::tableC r.table v w).toArray)
theorem RuleD.Ok.facts {r:RuleD} (h:r.Ok):2≤r.nSt∧r.nSt≤256∧hoodE r.hd=0:=by
  unfold RuleD.nSt RuleD.hd
  rcases h with ⟨hk,_,hl,hg⟩ | ⟨hk,_,hl,hg⟩ | ⟨hk,_,_,ht⟩
  · rw[if_pos hk,if_pos hk];exact⟨by omega,by omega,hl.1⟩
  · rw[if_neg (by omega),if_pos hk,if_neg (by omega),if_pos hk];exact⟨by omega,by omega,hl.1⟩
  · rw[if_neg (by omega),if_neg (by omega),if_neg (by omega),if_neg (by omega)];exact⟨ht.st.1,ht.st.2,ht.sym.2.1⟩
section
variable {k:World} {h0:Hp}
set_option maxRecDepth 10000 in
theorem births_states (l:LifeD):FT Pg 197 [.agg (lifeC l).toArray] k h0 [] (Is (.int .i64 2)):=by
  refine FT.of_wp (n:=3) Tryz.func197 rfl rfl rfl<|WP.regs<|L.box rfl rfl fun b1=>L.assign rfl<|WL.nil<|WP.regs<|L.assign rfl<|WL.nil<|WP.ret<|X.ret rfl (Res.one rfl rfl) ?_;exact rfl
set_option maxRecDepth 10000 in
theorem births_hood (l:LifeD):FT Pg 194 [.agg (lifeC l).toArray] k h0 [] (Is (.int .u8 l.hood)):=by
  refine FT.of_wp (n:=6) Tryz.func194 rfl rfl rfl<|WP.regs<|L.box rfl rfl fun b1=>L.assign rfl<|WL.nil<|WP.regs<|L.fieldAddr (o':=0) T196.f0 rfl rfl<|L.fieldAddr (o':=0) T24.f0 rfl rfl<|L.load T5.sc rfl (Rd.own 0 rfl rfl)<|L.assign rfl<|WL.nil<|WP.ret<|X.ret rfl (Res.one rfl rfl) ?_;exact rfl
set_option maxRecDepth 10000 in
theorem births_check (l:LifeD):FT Pg 193 [.agg (lifeC l).toArray] k h0 [] (RV fun v=>∃ e:Int,v=.int .i64 e∧(e=0↔l.Ok)):=by
  refine FT.of_wp (n:=6) Tryz.func193 rfl rfl rfl<|WP.regs<|L.box rfl rfl fun b1=>L.assign rfl<|WL.nil<|WP.regs<|L.fieldAddr (o':=0) T196.f0 rfl rfl<|L.loadN T24.ag rfl rfl (Rds.own (vs:=[_,_,_]) 0 rfl rfl)<|WL.call rfl rfl F198.fn rfl (FT.pureR fun g gS dj=>life_Check l) ?_;rintro _ _ ⟨⟨e,rfl,he⟩,rfl⟩;refine L.assign rfl<|WL.nil<|WP.ret<|X.ret rfl (Res.one rfl rfl) ?_;exact⟨_,rfl,_,rfl,he⟩
set_option maxRecDepth 10000 in
theorem births_next (l:LifeD) (hl:l.Ok) (c:Int) (arv:Value) (ar:List Int) (harv:BytesAt h0 arv ar) (har:(ar.length:Int)=hoodSize l.hood) (hc:0≤c∧c≤1):FT Pg 195 [.agg (lifeC l).toArray,.int .u8 c,arv] k h0 [] (Is (.tuple #[.int .u8 (lifeNext l c (livingN ar)),.int .i64 0])):=by
  have hb:=hoodSize_bd l.hood;have hle:=livingN_le ar
  refine FT.of_wp (n:=16) Tryz.func195 rfl rfl rfl<|WP.regs<|L.box rfl rfl fun b1=>L.assign rfl<|L.assign rfl<|WL.nil<|WP.seq<|WP.rege [(0,true),(1,true),(2,true),(3,true),(4,false),(5,false),(6,true),(7,true),(8,true),(9,true)] 10 rfl (by kernel_rfl) (PInv.then PInv.ret) rfl<|WE.take rfl (V.fieldAddr (o':=0) T196.f0 rfl rfl)<|WE.take rfl (V.loadN T24.ag rfl rfl (Rds.own (vs:=[_,_,_]) 0 rfl rfl))<|WE.take rfl (V.move rfl)<|WE.take rfl (V.move rfl)<|WE.one rfl<|WL.callV rfl rfl F200.fn rfl (fun g gS dj=>rule_living ar (by omega) arv (harv.mono (Hp.le_un_left _ _)))<|WL.nil ⟨Ent.refl _,?_⟩
  refine WE.one rfl<|WL.callV rfl rfl F199.fn rfl (fun g gS dj=>life_Next l hl c (livingN ar) hc (by omega))<|WL.nil ⟨Ent.refl _,?_⟩;refine WE.take rfl (V.extract rfl rfl)<|WE.take rfl (V.extract rfl rfl)<|WE.take rfl (V.assign rfl)<|WE.take rfl (V.assign rfl)<|WE.nil<|X.thenN<|WP.ret<|X.ret rfl (Res.two rfl rfl rfl) ?_;exact rfl
set_option maxRecDepth 10000 in
theorem fading_states (l:LifeD) (st:Int):FT Pg 206 [.agg (gensC l st).toArray] k h0 [] (Is (.int .i64 st)):=by
  refine FT.of_wp (n:=6) Tryz.func206 rfl rfl rfl<|WP.regs<|L.box rfl rfl fun b1=>L.assign rfl<|WL.nil<|WP.regs<|L.fieldAddr (o':=0) T198.f0 rfl rfl<|L.fieldAddr (o':=3) T26.f1 rfl rfl<|L.load T3.sc rfl (Rd.own 0 rfl rfl)<|L.assign rfl<|WL.nil<|WP.ret<|X.ret rfl (Res.one rfl rfl) ?_;exact rfl
set_option maxRecDepth 10000 in
theorem fading_hood (l:LifeD) (st:Int):FT Pg 203 [.agg (gensC l st).toArray] k h0 [] (Is (.int .u8 l.hood)):=by
  refine FT.of_wp (n:=7) Tryz.func203 rfl rfl rfl<|WP.regs<|L.box rfl rfl fun b1=>L.assign rfl<|WL.nil<|WP.regs<|L.fieldAddr (o':=0) T198.f0 rfl rfl<|L.fieldAddr (o':=0) T26.f0 rfl rfl<|L.fieldAddr (o':=0) T24.f0 rfl rfl<|L.load T5.sc rfl (Rd.own 0 rfl rfl)<|L.assign rfl<|WL.nil<|WP.ret<|X.ret rfl (Res.one rfl rfl) ?_;exact rfl
set_option maxRecDepth 10000 in
theorem fading_check (l:LifeD) (st:Int):FT Pg 202 [.agg (gensC l st).toArray] k h0 [] (RV fun v=>∃ e:Int,v=.int .i64 e∧(e=0↔l.Ok∧2≤st∧st≤256)):=by
  refine FT.of_wp (n:=6) Tryz.func202 rfl rfl rfl<|WP.regs<|L.box rfl rfl fun b1=>L.assign rfl<|WL.nil<|WP.regs<|L.fieldAddr (o':=0) T198.f0 rfl rfl<|L.loadN T26.ag rfl rfl (Rds.own (vs:=[_,_,_,_]) 0 rfl rfl)<|WL.call rfl rfl F207.fn rfl (FT.pureR fun g gS dj=>gens_Check l st) ?_;rintro _ _ ⟨⟨e,rfl,he⟩,rfl⟩;refine L.assign rfl<|WL.nil<|WP.ret<|X.ret rfl (Res.one rfl rfl) ?_;exact⟨_,rfl,_,rfl,he⟩
set_option maxRecDepth 10000 in
theorem fading_next (l:LifeD) (st:Int) (hl:l.Ok) (hst:2≤st∧st≤256) (c:Int) (arv:Value) (ar:List Int) (harv:BytesAt h0 arv ar) (har:(ar.length:Int)=hoodSize l.hood) (hc:0≤c∧c<st):FT Pg 204 [.agg (gensC l st).toArray,.int .u8 c,arv] k h0 [] (Is (.tuple #[.int .u8 (gensNext l st c (livingN ar)),.int .i64 0])):=by
  have hb:=hoodSize_bd l.hood;have hle:=livingN_le ar
  refine FT.of_wp (n:=16) Tryz.func204 rfl rfl rfl<|WP.regs<|L.box rfl rfl fun b1=>L.assign rfl<|L.assign rfl<|WL.nil<|WP.seq<|WP.rege [(0,true),(1,true),(2,true),(3,true),(4,false),(5,false),(6,true),(7,true),(8,true),(9,true)] 10 rfl (by kernel_rfl) (PInv.then PInv.ret) rfl<|WE.take rfl (V.fieldAddr (o':=0) T198.f0 rfl rfl)<|WE.take rfl (V.loadN T26.ag rfl rfl (Rds.own (vs:=[_,_,_,_]) 0 rfl rfl))<|WE.take rfl (V.move rfl)<|WE.take rfl (V.move rfl)<|WE.one rfl<|WL.callV rfl rfl F200.fn rfl (fun g gS dj=>rule_living ar (by omega) arv (harv.mono (Hp.le_un_left _ _)))<|WL.nil ⟨Ent.refl _,?_⟩
  refine WE.one rfl<|WL.callV rfl rfl F208.fn rfl (fun g gS dj=>gens_Next l st hl hst c (livingN ar) hc (by omega))<|WL.nil ⟨Ent.refl _,?_⟩;refine WE.take rfl (V.extract rfl rfl)<|WE.take rfl (V.extract rfl rfl)<|WE.take rfl (V.assign rfl)<|WE.take rfl (V.assign rfl)<|WE.nil<|X.thenN<|WP.ret<|X.ret rfl (Res.two rfl rfl rfl) ?_;exact rfl
set_option maxRecDepth 10000 in
theorem told_states (s:ByteArray) (t:TableD) (v r:Value):FT Pg 215 [.agg (.string s::tableC t v r).toArray] k h0 [] (Is (.int .i64 t.states)):=by
  refine FT.of_wp (n:=6) Tryz.func215 rfl rfl rfl<|WP.regs<|L.box rfl rfl fun b1=>L.assign rfl<|WL.nil<|WP.regs<|L.fieldAddr (o':=1) T200.f1 rfl rfl<|L.fieldAddr (o':=1) T30.f0 rfl rfl<|L.load T3.sc rfl (Rd.own 0 rfl rfl)<|L.assign rfl<|WL.nil<|WP.ret<|X.ret rfl (Res.one rfl rfl) ?_;exact rfl
set_option maxRecDepth 10000 in
theorem told_hood (s:ByteArray) (t:TableD) (v r:Value):FT Pg 212 [.agg (.string s::tableC t v r).toArray] k h0 [] (Is (.int .u8 t.hood)):=by
  refine FT.of_wp (n:=6) Tryz.func212 rfl rfl rfl<|WP.regs<|L.box rfl rfl fun b1=>L.assign rfl<|WL.nil<|WP.regs<|L.fieldAddr (o':=1) T200.f1 rfl rfl<|L.fieldAddr (o':=2) T30.f1 rfl rfl<|L.load T5.sc rfl (Rd.own 0 rfl rfl)<|L.assign rfl<|WL.nil<|WP.ret<|X.ret rfl (Res.one rfl rfl) ?_;exact rfl
set_option maxRecDepth 10000 in
theorem told_check (s:ByteArray) (hs:s.size≤4611686018427387904) (t:TableD) (hw:t.Wd) (v r:Value) (hta:TabAt h0 t v r):FT Pg 211 [.agg (.string s::tableC t v r).toArray] k h0 [] (RV fun v=>∃ e:Int,v=.int .i64 e∧(e=0↔VName s∧t.Ok)):=by
  refine FT.of_wp (n:=10) Tryz.func211 rfl rfl rfl<|WP.regs<|L.box rfl rfl fun b1=>L.assign rfl<|WL.nil<|WP.seq<|WP.regs<|L.fieldAddr (o':=0) T200.f0 rfl rfl<|L.load T9.sc rfl (Rd.own 0 rfl rfl)<|WL.call rfl rfl F216.fn rfl (FT.pureR fun g gS dj=>rule_named s hs) ?_;rintro _ _ ⟨⟨b,rfl,hb⟩,rfl⟩;refine L.not rfl<|WL.nil<|WP.cond rfl (fun h6=>?_) (fun h6=>?_);refine WP.regs<|L.assign rfl<|WL.nil<|WP.ret<|X.thenR<|X.ret rfl (Res.one rfl rfl) ?_;exact⟨_,rfl,_,rfl,⟨fun h=>absurd h (by decide),fun h=>by have:=hb.2 h.1;subst this;simp at h6⟩⟩
  refine WP.skip<|X.thenN<|WP.regs<|L.fieldAddr (o':=1) T200.f1 rfl rfl<|L.loadN T30.ag rfl rfl (Rds.own (vs:=[_,_,_,_,_]) 0 rfl rfl)<|WL.call rfl rfl F217.fn rfl (FT.pureR fun g gS dj=>table_Check t hw v r (hta.mono (Hp.le_un_left _ _))) ?_;rintro _ _ ⟨⟨e,rfl,he⟩,rfl⟩;refine L.assign rfl<|WL.nil<|WP.ret<|X.ret rfl (Res.one rfl rfl) ?_;exact⟨_,rfl,_,rfl,by rw[he];exact⟨fun h=>⟨hb.1 (by simpa using h6),h⟩,fun h=>h.2⟩⟩
set_option maxRecDepth 10000 in
theorem told_next (s:ByteArray) (t:TableD) (hw:t.Wd) (ht:t.Ok) (v r:Value) (hta:TabAt h0 t v r) (c:Int) (arv:Value) (ar:List Int) (harv:BytesAt h0 arv ar) (har:(ar.length:Int)=hoodSize t.hood) (hu:∀ i,i<ar.length→0≤ar.getD i 0∧ar.getD i 0<t.states) (hc:0≤c∧c<t.states):FT Pg 213 [.agg (.string s::tableC t v r).toArray,.int .u8 c,arv] k h0 [] (Is (.tuple #[.int .u8 (nextD t c ar),.int .i64 0])):=by
  refine FT.of_wp (n:=15) Tryz.func213 rfl rfl rfl<|WP.regs<|L.box rfl rfl fun b1=>L.assign rfl<|L.assign rfl<|WL.nil<|WP.regs<|L.fieldAddr (o':=1) T200.f1 rfl rfl<|L.loadN T30.ag rfl rfl (Rds.own (vs:=[_,_,_,_,_]) 0 rfl rfl)<|L.move rfl<|L.move rfl<|WL.callV rfl rfl F218.fn rfl (fun g gS dj=>table_Next t hw ht v r (hta.mono (Hp.le_un_left _ _)) c hc arv ar (harv.mono (Hp.le_un_left _ _)) har hu)<|L.extract rfl rfl<|L.extract rfl rfl<|L.assign rfl<|L.assign rfl<|WL.nil<|WP.ret<|X.ret rfl (Res.two rfl rfl rfl) ?_;exact rfl
def IsKind (h0:Hp) (r:RuleD) (kv:Value):Prop:=∃ (t:TypeId) (v:Value),kv=.iface t v∧
  (∃ f rv,(∀ w,(method (Pg.types.size+Made.depth) t v "vivarium/rule.states").run Pg w=.ok (f,rv) w)∧IsFn Pg f∧∀ k g,h0.le g→FT Pg f [rv] k g [] (Is (.int .i64 r.nSt)))∧
  (∃ f rv,(∀ w,(method (Pg.types.size+Made.depth) t v "vivarium/rule.hood").run Pg w=.ok (f,rv) w)∧IsFn Pg f∧∀ k g,h0.le g→FT Pg f [rv] k g [] (Is (.int .u8 r.hd)))∧
  (∃ f rv,(∀ w,(method (Pg.types.size+Made.depth) t v "vivarium/rule.next").run Pg w=.ok (f,rv) w)∧IsFn Pg f∧(∀ w,(nilAhead (Pg.types.size+Made.depth) t v "vivarium/rule.next").run Pg w=.ok (some false) w)∧
   ∀ k g,h0.le g→∀ c arv ar,BytesAt g arv ar→(ar.length:Int)=hoodSize r.hd→(∀ i,i<ar.length→0≤ar.getD i 0∧ar.getD i 0<r.nSt)→0≤c∧c<r.nSt→FT Pg f [rv,.int .u8 c,arv] k g [] (Is (.tuple #[.int .u8 (r.nx c ar),.int .i64 0])))
theorem kindV_is {h0:Hp} (r:RuleD) (hr:r.Ok) (hw:r.Wd) (v w:Value) (ht:TabAt h0 r.table v w):IsKind h0 r (kindV r v w):=by
  unfold kindV IsKind
  rcases hr with ⟨hk,_,hl,hg⟩ | ⟨hk,_,hl,hg⟩ | ⟨hk,_,_,hto⟩
  · unfold RuleD.nSt RuleD.hd RuleD.nx
    simp only[if_pos hk]
    refine⟨_,_,rfl,⟨_,_,M196_states _,F197.fn,fun k g _=>births_states r.life⟩,⟨_,_,M196_hood _,F194.fn,fun k g _=>births_hood r.life⟩,⟨_,_,M196_next _,F195.fn,MN196_next _,fun k g _ c arv ar harv har hu hc=>births_next r.life hl c arv ar harv har (by omega)⟩⟩
  · have h1:¬ r.kind=1:=by omega
    unfold RuleD.nSt RuleD.hd RuleD.nx
    simp only[if_neg h1,if_pos hk]
    refine⟨_,_,rfl,⟨_,_,M198_states _,F206.fn,fun k g _=>fading_states r.life r.gst⟩,⟨_,_,M198_hood _,F203.fn,fun k g _=>fading_hood r.life r.gst⟩,⟨_,_,M198_next _,F204.fn,MN198_next _,fun k g _ c arv ar harv har hu hc=>fading_next r.life r.gst hl hg c arv ar harv har hc⟩⟩
  · have h1:¬ r.kind=1:=by omega
    have h2:¬ r.kind=2:=by omega
    unfold RuleD.nSt RuleD.hd RuleD.nx
    simp only[if_neg h1,if_neg h2]
    refine⟨_,_,rfl,⟨_,_,M200_states _,F215.fn,fun k g _=>told_states r.name r.table v w⟩,⟨_,_,M200_hood _,F212.fn,fun k g _=>told_hood r.name r.table v w⟩,⟨_,_,M200_next _,F213.fn,MN200_next _,fun k g le c arv ar harv har hu hc=>told_next r.name r.table hw.table hto v w (ht.mono le) c arv ar harv har hu hc⟩⟩
end
open Go.RowKit Go.Proofs
theorem run_equal_life (dp:Nat) (a b c a' b' c':Int) (w:World):(Op.equalIn (dp+2) 24 (.agg #[.int .u8 a,.int .u16 b,.int .u16 c]) (.agg #[.int .u8 a',.int .u16 b',.int .u16 c'])).run Pg w=.ok (a == a' && (b == b' && c == c')) w:=by
  refine (run_equalIn_fields (dp+1) T24.u (by kernel_rfl) (fun f=>if f.offset=0 then a == a' else if f.offset=1 then b == b' else c == c') ?_).trans (by simp)
  intro f hf
  simp only[List.mem_cons,List.not_mem_nil,or_false] at hf
  rcases hf with rfl | rfl | rfl
  · exact⟨by decide,_,_,run_part1 T5.sc rfl,run_part1 T5.sc rfl,run_equalIn_int w _ _ _ _ _ _ T5.u⟩
  · exact⟨by decide,_,_,run_part1 T22.sc rfl,run_part1 T22.sc rfl,run_equalIn_int w _ _ _ _ _ _ T22.u⟩
  · exact⟨by decide,_,_,run_part1 T22.sc rfl,run_part1 T22.sc rfl,run_equalIn_int w _ _ _ _ _ _ T22.u⟩
theorem T26.eg:Pg.eqGuardType Pg.depth 26=false:=by kernel_rfl
def zeroG (l:LifeD) (st:Int):Prop:=l.hood=0∧l.born=0∧l.stay=0∧st=0
instance (l:LifeD) (st:Int):Decidable (zeroG l st):=by unfold zeroG;infer_instance
theorem run_equal_gens (l:LifeD) (st:Int) (w:World):(Op.equal 26 (.agg (gensC l st).toArray) (.agg (gensC ⟨0,0,0⟩ 0).toArray)).run Pg w=.ok (decide (zeroG l st)) w:=by
  unfold Op.equal
  rw[show Op.maxDepth=9997+2+1 from rfl]
  refine (run_equalIn_fields (9997+2) T26.u (by kernel_rfl) (fun f=>if f.offset=0 then (l.hood == 0 && (l.born == 0 && l.stay == 0)) else st == 0) ?_).trans ?_
  · intro f hf
    simp only[List.mem_cons,List.not_mem_nil,or_false] at hf
    rcases hf with rfl | rfl
    · exact⟨by decide,_,_,run_partN T24.ag,run_partN T24.ag,run_equal_life 9997 _ _ _ _ _ _ w⟩
    · exact⟨by decide,_,_,run_part1 T3.sc rfl,run_part1 T3.sc rfl,run_equalIn_int w _ _ _ _ _ _ T3.u⟩
  · congr 1
    simp only[List.all_cons,List.all_nil,Bool.and_true]
    by_cases h:zeroG l st
    · obtain⟨h1,h2,h3,h4⟩:=h
      simp[zeroG,h1,h2,h3,h4]
    · rw[decide_eq_false h]
      unfold zeroG at h
      by_cases h1:l.hood=0 <;> by_cases h2:l.born=0 <;> by_cases h3:l.stay=0 <;> by_cases h4:st=0 <;> simp_all
instance (r:RuleD):Decidable (aloneB r):=by unfold aloneB;infer_instance
section
variable {k:World} {h0:Hp}
set_option maxRecDepth 10000 in
theorem rule_bare (t:TableD) (hw:t.Wd) (va ra:Option Addr) (vcap rcap:Nat):FT Pg 141 [.agg (tableC t (.slice va t.vars.length vcap) (.slice ra t.rows.length rcap)).toArray] k h0 [] (Is (.bool (decide (t.states=0∧t.hood=0∧t.sym=0∧t.vars.length+t.rows.length=0)))):=by
  have h1:=hw.nvars;have h2:=hw.nrows
  refine FT.of_wp (n:=26) Tryz.func141 rfl rfl rfl<|WP.regs<|L.box rfl rfl fun b1=>L.assign rfl<|WL.nil<|WP.regs<|L.fieldAddr (o':=0) T30.f0 rfl rfl<|L.load T3.sc rfl (Rd.own 0 rfl rfl)<|L.eqlD rfl rfl (fun h5=>?_) (fun h5=>?_);refine L.move rfl<|L.fieldAddr (o':=1) T30.f1 rfl rfl<|L.load T5.sc rfl (Rd.own 0 rfl rfl)<|L.eqlD rfl rfl (fun h9=>?_) (fun h9=>?_);refine L.pickT rfl rfl<|L.move rfl<|L.fieldAddr (o':=2) T30.f2 rfl rfl<|L.load T5.sc rfl (Rd.own 0 rfl rfl)<|L.eqlD rfl rfl (fun h14=>?_) (fun h14=>?_)
  refine L.pickT rfl rfl<|L.move rfl<|L.fieldAddr (o':=3) T30.f3 rfl rfl<|L.load T27.sc rfl (Rd.own 0 rfl rfl)<|L.lenS T27.sl rfl rfl<|L.fieldAddr (o':=4) T30.f4 rfl rfl<|L.load T28.sc rfl (Rd.own 0 rfl rfl)<|L.lenS T28.sl rfl rfl<|L.add' rfl rfl (by omega)<|L.eql rfl rfl<|L.pickT rfl rfl<|L.assign rfl<|WL.nil<|WP.ret<|X.ret rfl (Res.one rfl rfl) ?_;rotate_left;refine L.pickT rfl rfl<|L.move rfl ?_
  iterate 8 refine L.skip ?_
  refine L.pickF rfl rfl<|L.assign rfl<|WL.nil<|WP.ret<|X.ret rfl (Res.one rfl rfl) ?_;rotate_left;refine L.pickT rfl rfl<|L.move rfl<|L.skip<|L.skip<|L.skip<|L.pickF rfl rfl<|L.move rfl ?_
  iterate 8 refine L.skip ?_
  refine L.pickF rfl rfl<|L.assign rfl<|WL.nil<|WP.ret<|X.ret rfl (Res.one rfl rfl) ?_;rotate_left;refine L.move rfl<|L.skip<|L.skip<|L.skip<|L.pickF rfl rfl<|L.move rfl<|L.skip<|L.skip<|L.skip<|L.pickF rfl rfl<|L.move rfl ?_
  iterate 8 refine L.skip ?_
  refine L.pickF rfl rfl<|L.assign rfl<|WL.nil<|WP.ret<|X.ret rfl (Res.one rfl rfl) ?_;rotate_left
  all_goals
   show _=_
   first
    | (rw[decide_eq_false (show ¬ (t.states=0∧t.hood=0∧t.sym=0∧t.vars.length+t.rows.length=0) by omega)])
    | (refine congrArg (fun b=>Ending.returned (Value.bool b)) (decide_eq_decide.2 ?_);omega)
set_option maxRecDepth 10000 in
theorem rule_of (r:RuleD) (hw:r.Wd) (v w:Value) (hta:TabAt h0 r.table v w):FT Pg 102 [.agg (ruleC r v w).toArray] k h0 [] (RV fun u=>∃ (kv:Value) (e:Int),u=.tuple #[kv,.int .i64 e]∧(e=0↔r.Ok)∧(e=0→kv=kindV r v w)):=by
  have hta0:=hta
  obtain⟨⟨vs,⟨va,vcap,rfl,hvcap,hvnone,hvsome⟩,hvb⟩,⟨rs,⟨ra,rcap,rfl,hrcap,hrnone,hrsome⟩,hrt⟩⟩:=hta
  refine FT.of_wp (n:=69) Tryz.func102 rfl rfl rfl<|WP.regs<|L.box rfl rfl fun b1=>L.assign rfl<|L.assign rfl<|WL.nil<|WP.regs<|L.assign rfl<|WL.nil<|WP.cut (X:=Bool) (fun al=>⟨69,[],[(1,.pointer (some ⟨b1,0,none⟩)),(4,.nilIface),(5,.bool al)]⟩) (fun al=>[cl b1 (ruleC r (.slice va r.table.vars.length vcap) (.slice ra r.table.rows.length rcap)) 32]) (fun al=>al=true↔aloneB r) ?_ ?_
  ·
   refine WP.region<|L.fieldAddr (o':=5) T32.f2 rfl rfl<|L.load T9.sc rfl (Rd.own 0 rfl rfl)<|L.eqlStrD rfl rfl (fun h9=>?_) (fun h9=>?_)
   ·
    refine L.move rfl<|L.fieldAddr (o':=6) T32.f3 rfl rfl<|L.loadN T30.ag rfl rfl (Rds.own (vs:=[_,_,_,_,_]) 0 rfl rfl)<|WL.callV rfl rfl F141.fn rfl (fun g gS dj=>rule_bare r.table hw.table va ra vcap rcap)<|L.pickT rfl rfl<|L.assign rfl<|WL.nil<|X.thenN ⟨_,by unfold aloneB;have hn:=bytes_nil r.name;first | (simp only[Bool.false_eq_true,false_iff];intro h;exact h9 (hn.2 h.1)) | (simp only[decide_eq_true_eq];exact⟨fun h=>⟨hn.1 h9,h⟩,fun h=>h.2⟩),(Env.Sub.cons rfl rfl (Env.Sub.cons rfl rfl (Env.Sub.cons rfl rfl Env.Sub.nil))),Ent.refl _⟩
   ·
    refine L.move rfl<|L.skip<|L.skip<|L.skip<|L.pickF rfl rfl<|L.assign rfl<|WL.nil<|X.thenN ⟨_,by unfold aloneB;have hn:=bytes_nil r.name;first | (simp only[Bool.false_eq_true,false_iff];intro h;exact h9 (hn.2 h.1)) | (simp only[decide_eq_true_eq];exact⟨fun h=>⟨hn.1 h9,h⟩,fun h=>h.2⟩),(Env.Sub.cons rfl rfl (Env.Sub.cons rfl rfl (Env.Sub.cons rfl rfl Env.Sub.nil))),Ent.refl _⟩
  ·
   rintro al hal
   refine WP.seq<|WP.block<|WP.regs<|L.fieldAddr (o':=0) T32.f0 rfl rfl<|L.load T5.sc rfl (Rd.own 0 rfl rfl)<|L.eqlD rfl rfl (fun h18=>?_) (fun h18=>?_)
   ·
    refine L.move rfl<|L.move rfl<|L.pickT rfl rfl<|L.assign rfl<|WL.nil<|WP.cond rfl (fun h15=>?_) (fun h15=>?_)
    ·
     refine WP.region<|L.fieldAddr (o':=1) T32.f1 rfl rfl<|L.fieldAddr (o':=1) T26.f0 rfl rfl<|L.loadN T24.ag rfl rfl (Rds.own (vs:=[_,_,_]) 0 rfl rfl)<|L.build (cs:=[_,_,_]) T196.b T196.z rfl rfl<|L.mkIface T196.u rfl rfl<|L.assign rfl<|WL.nil<|X.blockN<|X.thenN<|WP.seq<|WP.regs<|L.move rfl<|WL.inv rfl rfl rfl (M196_check _) F193.fn rfl (FT.pureR fun g gS dj=>births_check r.life) ?_;rintro _ _ ⟨⟨e,rfl,he⟩,rfl⟩;refine L.assign rfl<|WL.nil<|WP.regs<|L.move rfl<|L.neq rfl rfl<|WL.nil<|WP.condD rfl (fun h57=>?_) (fun h57=>?_)
     ·
      refine WP.regs<|L.move rfl<|L.assign rfl<|L.assign rfl<|WL.nil<|WP.ret<|X.thenR<|X.ret rfl (Res.two rfl rfl rfl) ?_
      first
       | exact⟨_,rfl,_,_,rfl,⟨fun _=>.inl ⟨h18,hal.1 h15,he.1 (by omega),by omega⟩,fun _=>rfl⟩,fun _=>by unfold kindV;rw[if_pos h18]⟩
       | exact⟨_,rfl,_,_,rfl,⟨fun _=>.inr (.inl ⟨h30,hal.1 h27,(he.1 (by omega)).1,(he.1 (by omega)).2⟩),fun _=>rfl⟩,fun _=>by unfold kindV;rw[if_neg (by omega),if_pos h30]⟩
       | exact⟨_,rfl,_,_,rfl,⟨fun _=>.inr (.inr ⟨h41,of_decide_eq_true h38,(he.1 (by omega)).1,(he.1 (by omega)).2⟩),fun _=>rfl⟩,fun _=>by unfold kindV;rw[if_neg (by omega),if_neg (by omega)]⟩
       | (refine⟨_,rfl,_,_,rfl,⟨fun h=>?_,fun hok=>?_⟩,fun h=>?_⟩
          rotate_left
          rotate_left
          exfalso;omega
          exfalso;omega
          exfalso
          rcases hok with ⟨hk,ha,hl,hg⟩ | ⟨hk,ha,hl,hg⟩ | ⟨hk,hz,hn,ht⟩
          all_goals first
           | omega
           | exact h57 (he.2 hl)
           | exact h57 (he.2 ⟨hl,hg⟩)
           | exact h57 (he.2 ⟨hn,ht⟩)
           | exact absurd (hal.2 ha) (by rw[h15];decide)
           | exact absurd (hal.2 ha) (by rw[h27];decide)
           | exact absurd hz (of_decide_eq_false h38))
     ·
      refine WP.skip<|X.thenN<|WP.seq<|WP.regs<|L.fieldAddr (o':=0) T32.f0 rfl rfl<|L.load T5.sc rfl (Rd.own 0 rfl rfl)<|L.eqlD rfl rfl (fun h61=>?_) (fun h61=>?_)
      ·
       refine L.move rfl<|L.fieldAddr (o':=1) T32.f1 rfl rfl<|L.fieldAddr (o':=4) T26.f1 rfl rfl<|L.load T3.sc rfl (Rd.own 0 rfl rfl)<|L.neq rfl rfl<|L.pickT rfl rfl<|WL.nil<|WP.condD rfl (fun h67=>?_) (fun h67=>?_)
       ·
        refine WP.regs<|L.assign rfl<|L.assign rfl<|WL.nil<|WP.ret<|X.thenR<|X.ret rfl (Res.two rfl rfl rfl) ?_
        first
         | exact⟨_,rfl,_,_,rfl,⟨fun _=>.inl ⟨h18,hal.1 h15,he.1 (by omega),by omega⟩,fun _=>rfl⟩,fun _=>by unfold kindV;rw[if_pos h18]⟩
         | exact⟨_,rfl,_,_,rfl,⟨fun _=>.inr (.inl ⟨h30,hal.1 h27,(he.1 (by omega)).1,(he.1 (by omega)).2⟩),fun _=>rfl⟩,fun _=>by unfold kindV;rw[if_neg (by omega),if_pos h30]⟩
         | exact⟨_,rfl,_,_,rfl,⟨fun _=>.inr (.inr ⟨h41,of_decide_eq_true h38,(he.1 (by omega)).1,(he.1 (by omega)).2⟩),fun _=>rfl⟩,fun _=>by unfold kindV;rw[if_neg (by omega),if_neg (by omega)]⟩
         | (refine⟨_,rfl,_,_,rfl,⟨fun h=>?_,fun hok=>?_⟩,fun h=>?_⟩
            rotate_left
            rotate_left
            exfalso;omega
            exfalso;omega
            exfalso
            rcases hok with ⟨hk,ha,hl,hg⟩ | ⟨hk,ha,hl,hg⟩ | ⟨hk,hz,hn,ht⟩
            all_goals first
             | omega
             | exact h57 (he.2 hl)
             | exact h57 (he.2 ⟨hl,hg⟩)
             | exact h57 (he.2 ⟨hn,ht⟩)
             | exact absurd (hal.2 ha) (by rw[h15];decide)
             | exact absurd (hal.2 ha) (by rw[h27];decide)
             | exact absurd hz (of_decide_eq_false h38))
       ·
        refine WP.skip<|X.thenN<|WP.regs<|L.move rfl<|L.assign rfl<|L.assign rfl<|WL.nil<|WP.ret<|X.ret rfl (Res.two rfl rfl rfl) ?_
        first
         | exact⟨_,rfl,_,_,rfl,⟨fun _=>.inl ⟨h18,hal.1 h15,he.1 (by omega),by omega⟩,fun _=>rfl⟩,fun _=>by unfold kindV;rw[if_pos h18]⟩
         | exact⟨_,rfl,_,_,rfl,⟨fun _=>.inr (.inl ⟨h30,hal.1 h27,(he.1 (by omega)).1,(he.1 (by omega)).2⟩),fun _=>rfl⟩,fun _=>by unfold kindV;rw[if_neg (by omega),if_pos h30]⟩
         | exact⟨_,rfl,_,_,rfl,⟨fun _=>.inr (.inr ⟨h41,of_decide_eq_true h38,(he.1 (by omega)).1,(he.1 (by omega)).2⟩),fun _=>rfl⟩,fun _=>by unfold kindV;rw[if_neg (by omega),if_neg (by omega)]⟩
         | (refine⟨_,rfl,_,_,rfl,⟨fun h=>?_,fun hok=>?_⟩,fun h=>?_⟩
            rotate_left
            rotate_left
            exfalso;omega
            exfalso;omega
            exfalso
            rcases hok with ⟨hk,ha,hl,hg⟩ | ⟨hk,ha,hl,hg⟩ | ⟨hk,hz,hn,ht⟩
            all_goals first
             | omega
             | exact h57 (he.2 hl)
             | exact h57 (he.2 ⟨hl,hg⟩)
             | exact h57 (he.2 ⟨hn,ht⟩)
             | exact absurd (hal.2 ha) (by rw[h15];decide)
             | exact absurd (hal.2 ha) (by rw[h27];decide)
             | exact absurd hz (of_decide_eq_false h38))
      ·
       refine L.move rfl<|L.skip<|L.skip<|L.skip<|L.skip<|L.pickF rfl rfl<|WL.nil<|WP.condF rfl<|WP.skip<|X.thenN<|WP.regs<|L.move rfl<|L.assign rfl<|L.assign rfl<|WL.nil<|WP.ret<|X.ret rfl (Res.two rfl rfl rfl) ?_
       first
        | exact⟨_,rfl,_,_,rfl,⟨fun _=>.inl ⟨h18,hal.1 h15,he.1 (by omega),by omega⟩,fun _=>rfl⟩,fun _=>by unfold kindV;rw[if_pos h18]⟩
        | exact⟨_,rfl,_,_,rfl,⟨fun _=>.inr (.inl ⟨h30,hal.1 h27,(he.1 (by omega)).1,(he.1 (by omega)).2⟩),fun _=>rfl⟩,fun _=>by unfold kindV;rw[if_neg (by omega),if_pos h30]⟩
        | exact⟨_,rfl,_,_,rfl,⟨fun _=>.inr (.inr ⟨h41,of_decide_eq_true h38,(he.1 (by omega)).1,(he.1 (by omega)).2⟩),fun _=>rfl⟩,fun _=>by unfold kindV;rw[if_neg (by omega),if_neg (by omega)]⟩
        | (refine⟨_,rfl,_,_,rfl,⟨fun h=>?_,fun hok=>?_⟩,fun h=>?_⟩
           rotate_left
           rotate_left
           exfalso;omega
           exfalso;omega
           exfalso
           rcases hok with ⟨hk,ha,hl,hg⟩ | ⟨hk,ha,hl,hg⟩ | ⟨hk,hz,hn,ht⟩
           all_goals first
            | omega
            | exact h57 (he.2 hl)
            | exact h57 (he.2 ⟨hl,hg⟩)
            | exact h57 (he.2 ⟨hn,ht⟩)
            | exact absurd (hal.2 ha) (by rw[h15];decide)
            | exact absurd (hal.2 ha) (by rw[h27];decide)
            | exact absurd hz (of_decide_eq_false h38))
    ·
     refine WP.regs<|L.fieldAddr (o':=0) T32.f0 rfl rfl<|L.load T5.sc rfl (Rd.own 0 rfl rfl)<|L.eqlD rfl rfl (fun h30=>?_) (fun h30=>?_)
     ·
      refine L.move rfl<|L.move rfl<|L.pickT rfl rfl<|L.assign rfl<|WL.nil<|WP.cond rfl (fun h27=>?_) (fun h27=>?_)
      ·
       refine WP.region<|L.fieldAddr (o':=1) T32.f1 rfl rfl<|L.loadN T26.ag rfl rfl (Rds.own (vs:=[_,_,_,_]) 0 rfl rfl)<|L.build (cs:=[_,_,_,_]) T198.b T198.z rfl rfl<|L.mkIface T198.u rfl rfl<|L.assign rfl<|WL.nil<|X.blockN<|X.thenN<|WP.seq<|WP.regs<|L.move rfl<|WL.inv rfl rfl rfl (M198_check _) F202.fn rfl (FT.pureR fun g gS dj=>fading_check r.life r.gst) ?_;rintro _ _ ⟨⟨e,rfl,he⟩,rfl⟩;refine L.assign rfl<|WL.nil<|WP.regs<|L.move rfl<|L.neq rfl rfl<|WL.nil<|WP.condD rfl (fun h57=>?_) (fun h57=>?_)
       ·
        refine WP.regs<|L.move rfl<|L.assign rfl<|L.assign rfl<|WL.nil<|WP.ret<|X.thenR<|X.ret rfl (Res.two rfl rfl rfl) ?_
        first
         | exact⟨_,rfl,_,_,rfl,⟨fun _=>.inl ⟨h18,hal.1 h15,he.1 (by omega),by omega⟩,fun _=>rfl⟩,fun _=>by unfold kindV;rw[if_pos h18]⟩
         | exact⟨_,rfl,_,_,rfl,⟨fun _=>.inr (.inl ⟨h30,hal.1 h27,(he.1 (by omega)).1,(he.1 (by omega)).2⟩),fun _=>rfl⟩,fun _=>by unfold kindV;rw[if_neg (by omega),if_pos h30]⟩
         | exact⟨_,rfl,_,_,rfl,⟨fun _=>.inr (.inr ⟨h41,of_decide_eq_true h38,(he.1 (by omega)).1,(he.1 (by omega)).2⟩),fun _=>rfl⟩,fun _=>by unfold kindV;rw[if_neg (by omega),if_neg (by omega)]⟩
         | (refine⟨_,rfl,_,_,rfl,⟨fun h=>?_,fun hok=>?_⟩,fun h=>?_⟩
            rotate_left
            rotate_left
            exfalso;omega
            exfalso;omega
            exfalso
            rcases hok with ⟨hk,ha,hl,hg⟩ | ⟨hk,ha,hl,hg⟩ | ⟨hk,hz,hn,ht⟩
            all_goals first
             | omega
             | exact h57 (he.2 hl)
             | exact h57 (he.2 ⟨hl,hg⟩)
             | exact h57 (he.2 ⟨hn,ht⟩)
             | exact absurd (hal.2 ha) (by rw[h15];decide)
             | exact absurd (hal.2 ha) (by rw[h27];decide)
             | exact absurd hz (of_decide_eq_false h38))
       ·
        refine WP.skip<|X.thenN<|WP.seq<|WP.regs<|L.fieldAddr (o':=0) T32.f0 rfl rfl<|L.load T5.sc rfl (Rd.own 0 rfl rfl)<|L.eqlD rfl rfl (fun h61=>?_) (fun h61=>?_)
        ·
         refine L.move rfl<|L.fieldAddr (o':=1) T32.f1 rfl rfl<|L.fieldAddr (o':=4) T26.f1 rfl rfl<|L.load T3.sc rfl (Rd.own 0 rfl rfl)<|L.neq rfl rfl<|L.pickT rfl rfl<|WL.nil<|WP.condD rfl (fun h67=>?_) (fun h67=>?_)
         ·
          refine WP.regs<|L.assign rfl<|L.assign rfl<|WL.nil<|WP.ret<|X.thenR<|X.ret rfl (Res.two rfl rfl rfl) ?_
          first
           | exact⟨_,rfl,_,_,rfl,⟨fun _=>.inl ⟨h18,hal.1 h15,he.1 (by omega),by omega⟩,fun _=>rfl⟩,fun _=>by unfold kindV;rw[if_pos h18]⟩
           | exact⟨_,rfl,_,_,rfl,⟨fun _=>.inr (.inl ⟨h30,hal.1 h27,(he.1 (by omega)).1,(he.1 (by omega)).2⟩),fun _=>rfl⟩,fun _=>by unfold kindV;rw[if_neg (by omega),if_pos h30]⟩
           | exact⟨_,rfl,_,_,rfl,⟨fun _=>.inr (.inr ⟨h41,of_decide_eq_true h38,(he.1 (by omega)).1,(he.1 (by omega)).2⟩),fun _=>rfl⟩,fun _=>by unfold kindV;rw[if_neg (by omega),if_neg (by omega)]⟩
           | (refine⟨_,rfl,_,_,rfl,⟨fun h=>?_,fun hok=>?_⟩,fun h=>?_⟩
              rotate_left
              rotate_left
              exfalso;omega
              exfalso;omega
              exfalso
              rcases hok with ⟨hk,ha,hl,hg⟩ | ⟨hk,ha,hl,hg⟩ | ⟨hk,hz,hn,ht⟩
              all_goals first
               | omega
               | exact h57 (he.2 hl)
               | exact h57 (he.2 ⟨hl,hg⟩)
               | exact h57 (he.2 ⟨hn,ht⟩)
               | exact absurd (hal.2 ha) (by rw[h15];decide)
               | exact absurd (hal.2 ha) (by rw[h27];decide)
               | exact absurd hz (of_decide_eq_false h38))
         ·
          refine WP.skip<|X.thenN<|WP.regs<|L.move rfl<|L.assign rfl<|L.assign rfl<|WL.nil<|WP.ret<|X.ret rfl (Res.two rfl rfl rfl) ?_
          first
           | exact⟨_,rfl,_,_,rfl,⟨fun _=>.inl ⟨h18,hal.1 h15,he.1 (by omega),by omega⟩,fun _=>rfl⟩,fun _=>by unfold kindV;rw[if_pos h18]⟩
           | exact⟨_,rfl,_,_,rfl,⟨fun _=>.inr (.inl ⟨h30,hal.1 h27,(he.1 (by omega)).1,(he.1 (by omega)).2⟩),fun _=>rfl⟩,fun _=>by unfold kindV;rw[if_neg (by omega),if_pos h30]⟩
           | exact⟨_,rfl,_,_,rfl,⟨fun _=>.inr (.inr ⟨h41,of_decide_eq_true h38,(he.1 (by omega)).1,(he.1 (by omega)).2⟩),fun _=>rfl⟩,fun _=>by unfold kindV;rw[if_neg (by omega),if_neg (by omega)]⟩
           | (refine⟨_,rfl,_,_,rfl,⟨fun h=>?_,fun hok=>?_⟩,fun h=>?_⟩
              rotate_left
              rotate_left
              exfalso;omega
              exfalso;omega
              exfalso
              rcases hok with ⟨hk,ha,hl,hg⟩ | ⟨hk,ha,hl,hg⟩ | ⟨hk,hz,hn,ht⟩
              all_goals first
               | omega
               | exact h57 (he.2 hl)
               | exact h57 (he.2 ⟨hl,hg⟩)
               | exact h57 (he.2 ⟨hn,ht⟩)
               | exact absurd (hal.2 ha) (by rw[h15];decide)
               | exact absurd (hal.2 ha) (by rw[h27];decide)
               | exact absurd hz (of_decide_eq_false h38))
        ·
         refine L.move rfl<|L.skip<|L.skip<|L.skip<|L.skip<|L.pickF rfl rfl<|WL.nil<|WP.condF rfl<|WP.skip<|X.thenN<|WP.regs<|L.move rfl<|L.assign rfl<|L.assign rfl<|WL.nil<|WP.ret<|X.ret rfl (Res.two rfl rfl rfl) ?_
         first
          | exact⟨_,rfl,_,_,rfl,⟨fun _=>.inl ⟨h18,hal.1 h15,he.1 (by omega),by omega⟩,fun _=>rfl⟩,fun _=>by unfold kindV;rw[if_pos h18]⟩
          | exact⟨_,rfl,_,_,rfl,⟨fun _=>.inr (.inl ⟨h30,hal.1 h27,(he.1 (by omega)).1,(he.1 (by omega)).2⟩),fun _=>rfl⟩,fun _=>by unfold kindV;rw[if_neg (by omega),if_pos h30]⟩
          | exact⟨_,rfl,_,_,rfl,⟨fun _=>.inr (.inr ⟨h41,of_decide_eq_true h38,(he.1 (by omega)).1,(he.1 (by omega)).2⟩),fun _=>rfl⟩,fun _=>by unfold kindV;rw[if_neg (by omega),if_neg (by omega)]⟩
          | (refine⟨_,rfl,_,_,rfl,⟨fun h=>?_,fun hok=>?_⟩,fun h=>?_⟩
             rotate_left
             rotate_left
             exfalso;omega
             exfalso;omega
             exfalso
             rcases hok with ⟨hk,ha,hl,hg⟩ | ⟨hk,ha,hl,hg⟩ | ⟨hk,hz,hn,ht⟩
             all_goals first
              | omega
              | exact h57 (he.2 hl)
              | exact h57 (he.2 ⟨hl,hg⟩)
              | exact h57 (he.2 ⟨hn,ht⟩)
              | exact absurd (hal.2 ha) (by rw[h15];decide)
              | exact absurd (hal.2 ha) (by rw[h27];decide)
              | exact absurd hz (of_decide_eq_false h38))
      ·
       refine WP.regs<|L.fieldAddr (o':=0) T32.f0 rfl rfl<|L.load T5.sc rfl (Rd.own 0 rfl rfl)<|L.eqlD rfl rfl (fun h41=>?_) (fun h41=>?_)
       ·
        refine L.move rfl<|L.fieldAddr (o':=1) T32.f1 rfl rfl<|L.loadN T26.ag rfl rfl (Rds.own (vs:=[_,_,_,_]) 0 rfl rfl)<|L.build (cs:=[_,_,_,_]) T26.b T26.z rfl rfl<|L.eqlOf T26.eg rfl rfl (run_equal_gens r.life r.gst)<|L.pickT rfl rfl<|L.assign rfl<|WL.nil<|WP.cond rfl (fun h38=>?_) (fun h38=>?_)
        ·
         refine WP.region<|L.fieldAddr (o':=5) T32.f2 rfl rfl<|L.load T9.sc rfl (Rd.own 0 rfl rfl)<|L.fieldAddr (o':=6) T32.f3 rfl rfl<|L.loadN T30.ag rfl rfl (Rds.own (vs:=[_,_,_,_,_]) 0 rfl rfl)<|L.build (cs:=[_,_,_,_,_,_]) T200.b T200.z rfl rfl<|L.mkIface T200.u rfl rfl<|L.assign rfl<|WL.nil<|X.blockN<|X.thenN<|WP.seq<|WP.regs<|L.move rfl<|WL.inv rfl rfl rfl (M200_check _) F211.fn rfl (FT.pureR fun g gS dj=>told_check r.name hw.name r.table hw.table _ _ (hta0.mono (Hp.le_un_left _ _))) ?_;rintro _ _ ⟨⟨e,rfl,he⟩,rfl⟩;refine L.assign rfl<|WL.nil<|WP.regs<|L.move rfl<|L.neq rfl rfl<|WL.nil<|WP.condD rfl (fun h57=>?_) (fun h57=>?_)
         ·
          refine WP.regs<|L.move rfl<|L.assign rfl<|L.assign rfl<|WL.nil<|WP.ret<|X.thenR<|X.ret rfl (Res.two rfl rfl rfl) ?_
          first
           | exact⟨_,rfl,_,_,rfl,⟨fun _=>.inl ⟨h18,hal.1 h15,he.1 (by omega),by omega⟩,fun _=>rfl⟩,fun _=>by unfold kindV;rw[if_pos h18]⟩
           | exact⟨_,rfl,_,_,rfl,⟨fun _=>.inr (.inl ⟨h30,hal.1 h27,(he.1 (by omega)).1,(he.1 (by omega)).2⟩),fun _=>rfl⟩,fun _=>by unfold kindV;rw[if_neg (by omega),if_pos h30]⟩
           | exact⟨_,rfl,_,_,rfl,⟨fun _=>.inr (.inr ⟨h41,of_decide_eq_true h38,(he.1 (by omega)).1,(he.1 (by omega)).2⟩),fun _=>rfl⟩,fun _=>by unfold kindV;rw[if_neg (by omega),if_neg (by omega)]⟩
           | (refine⟨_,rfl,_,_,rfl,⟨fun h=>?_,fun hok=>?_⟩,fun h=>?_⟩
              rotate_left
              rotate_left
              exfalso;omega
              exfalso;omega
              exfalso
              rcases hok with ⟨hk,ha,hl,hg⟩ | ⟨hk,ha,hl,hg⟩ | ⟨hk,hz,hn,ht⟩
              all_goals first
               | omega
               | exact h57 (he.2 hl)
               | exact h57 (he.2 ⟨hl,hg⟩)
               | exact h57 (he.2 ⟨hn,ht⟩)
               | exact absurd (hal.2 ha) (by rw[h15];decide)
               | exact absurd (hal.2 ha) (by rw[h27];decide)
               | exact absurd hz (of_decide_eq_false h38))
         ·
          refine WP.skip<|X.thenN<|WP.seq<|WP.regs<|L.fieldAddr (o':=0) T32.f0 rfl rfl<|L.load T5.sc rfl (Rd.own 0 rfl rfl)<|L.eqlD rfl rfl (fun h61=>?_) (fun h61=>?_)
          ·
           refine L.move rfl<|L.fieldAddr (o':=1) T32.f1 rfl rfl<|L.fieldAddr (o':=4) T26.f1 rfl rfl<|L.load T3.sc rfl (Rd.own 0 rfl rfl)<|L.neq rfl rfl<|L.pickT rfl rfl<|WL.nil<|WP.condD rfl (fun h67=>?_) (fun h67=>?_)
           ·
            refine WP.regs<|L.assign rfl<|L.assign rfl<|WL.nil<|WP.ret<|X.thenR<|X.ret rfl (Res.two rfl rfl rfl) ?_
            first
             | exact⟨_,rfl,_,_,rfl,⟨fun _=>.inl ⟨h18,hal.1 h15,he.1 (by omega),by omega⟩,fun _=>rfl⟩,fun _=>by unfold kindV;rw[if_pos h18]⟩
             | exact⟨_,rfl,_,_,rfl,⟨fun _=>.inr (.inl ⟨h30,hal.1 h27,(he.1 (by omega)).1,(he.1 (by omega)).2⟩),fun _=>rfl⟩,fun _=>by unfold kindV;rw[if_neg (by omega),if_pos h30]⟩
             | exact⟨_,rfl,_,_,rfl,⟨fun _=>.inr (.inr ⟨h41,of_decide_eq_true h38,(he.1 (by omega)).1,(he.1 (by omega)).2⟩),fun _=>rfl⟩,fun _=>by unfold kindV;rw[if_neg (by omega),if_neg (by omega)]⟩
             | (refine⟨_,rfl,_,_,rfl,⟨fun h=>?_,fun hok=>?_⟩,fun h=>?_⟩
                rotate_left
                rotate_left
                exfalso;omega
                exfalso;omega
                exfalso
                rcases hok with ⟨hk,ha,hl,hg⟩ | ⟨hk,ha,hl,hg⟩ | ⟨hk,hz,hn,ht⟩
                all_goals first
                 | omega
                 | exact h57 (he.2 hl)
                 | exact h57 (he.2 ⟨hl,hg⟩)
                 | exact h57 (he.2 ⟨hn,ht⟩)
                 | exact absurd (hal.2 ha) (by rw[h15];decide)
                 | exact absurd (hal.2 ha) (by rw[h27];decide)
                 | exact absurd hz (of_decide_eq_false h38))
           ·
            refine WP.skip<|X.thenN<|WP.regs<|L.move rfl<|L.assign rfl<|L.assign rfl<|WL.nil<|WP.ret<|X.ret rfl (Res.two rfl rfl rfl) ?_
            first
             | exact⟨_,rfl,_,_,rfl,⟨fun _=>.inl ⟨h18,hal.1 h15,he.1 (by omega),by omega⟩,fun _=>rfl⟩,fun _=>by unfold kindV;rw[if_pos h18]⟩
             | exact⟨_,rfl,_,_,rfl,⟨fun _=>.inr (.inl ⟨h30,hal.1 h27,(he.1 (by omega)).1,(he.1 (by omega)).2⟩),fun _=>rfl⟩,fun _=>by unfold kindV;rw[if_neg (by omega),if_pos h30]⟩
             | exact⟨_,rfl,_,_,rfl,⟨fun _=>.inr (.inr ⟨h41,of_decide_eq_true h38,(he.1 (by omega)).1,(he.1 (by omega)).2⟩),fun _=>rfl⟩,fun _=>by unfold kindV;rw[if_neg (by omega),if_neg (by omega)]⟩
             | (refine⟨_,rfl,_,_,rfl,⟨fun h=>?_,fun hok=>?_⟩,fun h=>?_⟩
                rotate_left
                rotate_left
                exfalso;omega
                exfalso;omega
                exfalso
                rcases hok with ⟨hk,ha,hl,hg⟩ | ⟨hk,ha,hl,hg⟩ | ⟨hk,hz,hn,ht⟩
                all_goals first
                 | omega
                 | exact h57 (he.2 hl)
                 | exact h57 (he.2 ⟨hl,hg⟩)
                 | exact h57 (he.2 ⟨hn,ht⟩)
                 | exact absurd (hal.2 ha) (by rw[h15];decide)
                 | exact absurd (hal.2 ha) (by rw[h27];decide)
                 | exact absurd hz (of_decide_eq_false h38))
          ·
           refine L.move rfl<|L.skip<|L.skip<|L.skip<|L.skip<|L.pickF rfl rfl<|WL.nil<|WP.condF rfl<|WP.skip<|X.thenN<|WP.regs<|L.move rfl<|L.assign rfl<|L.assign rfl<|WL.nil<|WP.ret<|X.ret rfl (Res.two rfl rfl rfl) ?_
           first
            | exact⟨_,rfl,_,_,rfl,⟨fun _=>.inl ⟨h18,hal.1 h15,he.1 (by omega),by omega⟩,fun _=>rfl⟩,fun _=>by unfold kindV;rw[if_pos h18]⟩
            | exact⟨_,rfl,_,_,rfl,⟨fun _=>.inr (.inl ⟨h30,hal.1 h27,(he.1 (by omega)).1,(he.1 (by omega)).2⟩),fun _=>rfl⟩,fun _=>by unfold kindV;rw[if_neg (by omega),if_pos h30]⟩
            | exact⟨_,rfl,_,_,rfl,⟨fun _=>.inr (.inr ⟨h41,of_decide_eq_true h38,(he.1 (by omega)).1,(he.1 (by omega)).2⟩),fun _=>rfl⟩,fun _=>by unfold kindV;rw[if_neg (by omega),if_neg (by omega)]⟩
            | (refine⟨_,rfl,_,_,rfl,⟨fun h=>?_,fun hok=>?_⟩,fun h=>?_⟩
               rotate_left
               rotate_left
               exfalso;omega
               exfalso;omega
               exfalso
               rcases hok with ⟨hk,ha,hl,hg⟩ | ⟨hk,ha,hl,hg⟩ | ⟨hk,hz,hn,ht⟩
               all_goals first
                | omega
                | exact h57 (he.2 hl)
                | exact h57 (he.2 ⟨hl,hg⟩)
                | exact h57 (he.2 ⟨hn,ht⟩)
                | exact absurd (hal.2 ha) (by rw[h15];decide)
                | exact absurd (hal.2 ha) (by rw[h27];decide)
                | exact absurd hz (of_decide_eq_false h38))
        ·
         refine WP.regs<|L.assign rfl<|L.assign rfl<|WL.nil<|WP.ret<|X.blockR (X.thenR ?_);refine X.ret rfl (Res.two rfl rfl rfl) ?_
         first
          | exact⟨_,rfl,_,_,rfl,⟨fun _=>.inl ⟨h18,hal.1 h15,he.1 (by omega),by omega⟩,fun _=>rfl⟩,fun _=>by unfold kindV;rw[if_pos h18]⟩
          | exact⟨_,rfl,_,_,rfl,⟨fun _=>.inr (.inl ⟨h30,hal.1 h27,(he.1 (by omega)).1,(he.1 (by omega)).2⟩),fun _=>rfl⟩,fun _=>by unfold kindV;rw[if_neg (by omega),if_pos h30]⟩
          | exact⟨_,rfl,_,_,rfl,⟨fun _=>.inr (.inr ⟨h41,of_decide_eq_true h38,(he.1 (by omega)).1,(he.1 (by omega)).2⟩),fun _=>rfl⟩,fun _=>by unfold kindV;rw[if_neg (by omega),if_neg (by omega)]⟩
          | (refine⟨_,rfl,_,_,rfl,⟨fun h=>?_,fun hok=>?_⟩,fun h=>?_⟩
             rotate_left
             rotate_left
             exfalso;omega
             exfalso;omega
             exfalso
             rcases hok with ⟨hk,ha,hl,hg⟩ | ⟨hk,ha,hl,hg⟩ | ⟨hk,hz,hn,ht⟩
             all_goals first
              | omega
              | exact h57 (he.2 hl)
              | exact h57 (he.2 ⟨hl,hg⟩)
              | exact h57 (he.2 ⟨hn,ht⟩)
              | exact absurd (hal.2 ha) (by rw[h15];decide)
              | exact absurd (hal.2 ha) (by rw[h27];decide)
              | exact absurd hz (of_decide_eq_false h38))
       ·
        refine L.move rfl<|L.skip<|L.skip<|L.skip<|L.skip<|L.pickF rfl rfl<|L.assign rfl<|WL.nil<|WP.condF rfl<|WP.regs<|L.assign rfl<|L.assign rfl<|WL.nil<|WP.ret<|X.blockR (X.thenR ?_);refine X.ret rfl (Res.two rfl rfl rfl) ?_
        first
         | exact⟨_,rfl,_,_,rfl,⟨fun _=>.inl ⟨h18,hal.1 h15,he.1 (by omega),by omega⟩,fun _=>rfl⟩,fun _=>by unfold kindV;rw[if_pos h18]⟩
         | exact⟨_,rfl,_,_,rfl,⟨fun _=>.inr (.inl ⟨h30,hal.1 h27,(he.1 (by omega)).1,(he.1 (by omega)).2⟩),fun _=>rfl⟩,fun _=>by unfold kindV;rw[if_neg (by omega),if_pos h30]⟩
         | exact⟨_,rfl,_,_,rfl,⟨fun _=>.inr (.inr ⟨h41,of_decide_eq_true h38,(he.1 (by omega)).1,(he.1 (by omega)).2⟩),fun _=>rfl⟩,fun _=>by unfold kindV;rw[if_neg (by omega),if_neg (by omega)]⟩
         | (refine⟨_,rfl,_,_,rfl,⟨fun h=>?_,fun hok=>?_⟩,fun h=>?_⟩
            rotate_left
            rotate_left
            exfalso;omega
            exfalso;omega
            exfalso
            rcases hok with ⟨hk,ha,hl,hg⟩ | ⟨hk,ha,hl,hg⟩ | ⟨hk,hz,hn,ht⟩
            all_goals first
             | omega
             | exact h57 (he.2 hl)
             | exact h57 (he.2 ⟨hl,hg⟩)
             | exact h57 (he.2 ⟨hn,ht⟩)
             | exact absurd (hal.2 ha) (by rw[h15];decide)
             | exact absurd (hal.2 ha) (by rw[h27];decide)
             | exact absurd hz (of_decide_eq_false h38))
     ·
      refine L.move rfl<|L.skip<|L.pickF rfl rfl<|L.assign rfl<|WL.nil<|WP.condF rfl<|WP.regs<|L.fieldAddr (o':=0) T32.f0 rfl rfl<|L.load T5.sc rfl (Rd.own 0 rfl rfl)<|L.eqlD rfl rfl (fun h41=>?_) (fun h41=>?_)
      ·
       refine L.move rfl<|L.fieldAddr (o':=1) T32.f1 rfl rfl<|L.loadN T26.ag rfl rfl (Rds.own (vs:=[_,_,_,_]) 0 rfl rfl)<|L.build (cs:=[_,_,_,_]) T26.b T26.z rfl rfl<|L.eqlOf T26.eg rfl rfl (run_equal_gens r.life r.gst)<|L.pickT rfl rfl<|L.assign rfl<|WL.nil<|WP.cond rfl (fun h38=>?_) (fun h38=>?_)
       ·
        refine WP.region<|L.fieldAddr (o':=5) T32.f2 rfl rfl<|L.load T9.sc rfl (Rd.own 0 rfl rfl)<|L.fieldAddr (o':=6) T32.f3 rfl rfl<|L.loadN T30.ag rfl rfl (Rds.own (vs:=[_,_,_,_,_]) 0 rfl rfl)<|L.build (cs:=[_,_,_,_,_,_]) T200.b T200.z rfl rfl<|L.mkIface T200.u rfl rfl<|L.assign rfl<|WL.nil<|X.blockN<|X.thenN<|WP.seq<|WP.regs<|L.move rfl<|WL.inv rfl rfl rfl (M200_check _) F211.fn rfl (FT.pureR fun g gS dj=>told_check r.name hw.name r.table hw.table _ _ (hta0.mono (Hp.le_un_left _ _))) ?_;rintro _ _ ⟨⟨e,rfl,he⟩,rfl⟩;refine L.assign rfl<|WL.nil<|WP.regs<|L.move rfl<|L.neq rfl rfl<|WL.nil<|WP.condD rfl (fun h57=>?_) (fun h57=>?_)
        ·
         refine WP.regs<|L.move rfl<|L.assign rfl<|L.assign rfl<|WL.nil<|WP.ret<|X.thenR<|X.ret rfl (Res.two rfl rfl rfl) ?_
         first
          | exact⟨_,rfl,_,_,rfl,⟨fun _=>.inl ⟨h18,hal.1 h15,he.1 (by omega),by omega⟩,fun _=>rfl⟩,fun _=>by unfold kindV;rw[if_pos h18]⟩
          | exact⟨_,rfl,_,_,rfl,⟨fun _=>.inr (.inl ⟨h30,hal.1 h27,(he.1 (by omega)).1,(he.1 (by omega)).2⟩),fun _=>rfl⟩,fun _=>by unfold kindV;rw[if_neg (by omega),if_pos h30]⟩
          | exact⟨_,rfl,_,_,rfl,⟨fun _=>.inr (.inr ⟨h41,of_decide_eq_true h38,(he.1 (by omega)).1,(he.1 (by omega)).2⟩),fun _=>rfl⟩,fun _=>by unfold kindV;rw[if_neg (by omega),if_neg (by omega)]⟩
          | (refine⟨_,rfl,_,_,rfl,⟨fun h=>?_,fun hok=>?_⟩,fun h=>?_⟩
             rotate_left
             rotate_left
             exfalso;omega
             exfalso;omega
             exfalso
             rcases hok with ⟨hk,ha,hl,hg⟩ | ⟨hk,ha,hl,hg⟩ | ⟨hk,hz,hn,ht⟩
             all_goals first
              | omega
              | exact h57 (he.2 hl)
              | exact h57 (he.2 ⟨hl,hg⟩)
              | exact h57 (he.2 ⟨hn,ht⟩)
              | exact absurd (hal.2 ha) (by rw[h15];decide)
              | exact absurd (hal.2 ha) (by rw[h27];decide)
              | exact absurd hz (of_decide_eq_false h38))
        ·
         refine WP.skip<|X.thenN<|WP.seq<|WP.regs<|L.fieldAddr (o':=0) T32.f0 rfl rfl<|L.load T5.sc rfl (Rd.own 0 rfl rfl)<|L.eqlD rfl rfl (fun h61=>?_) (fun h61=>?_)
         ·
          refine L.move rfl<|L.fieldAddr (o':=1) T32.f1 rfl rfl<|L.fieldAddr (o':=4) T26.f1 rfl rfl<|L.load T3.sc rfl (Rd.own 0 rfl rfl)<|L.neq rfl rfl<|L.pickT rfl rfl<|WL.nil<|WP.condD rfl (fun h67=>?_) (fun h67=>?_)
          ·
           refine WP.regs<|L.assign rfl<|L.assign rfl<|WL.nil<|WP.ret<|X.thenR<|X.ret rfl (Res.two rfl rfl rfl) ?_
           first
            | exact⟨_,rfl,_,_,rfl,⟨fun _=>.inl ⟨h18,hal.1 h15,he.1 (by omega),by omega⟩,fun _=>rfl⟩,fun _=>by unfold kindV;rw[if_pos h18]⟩
            | exact⟨_,rfl,_,_,rfl,⟨fun _=>.inr (.inl ⟨h30,hal.1 h27,(he.1 (by omega)).1,(he.1 (by omega)).2⟩),fun _=>rfl⟩,fun _=>by unfold kindV;rw[if_neg (by omega),if_pos h30]⟩
            | exact⟨_,rfl,_,_,rfl,⟨fun _=>.inr (.inr ⟨h41,of_decide_eq_true h38,(he.1 (by omega)).1,(he.1 (by omega)).2⟩),fun _=>rfl⟩,fun _=>by unfold kindV;rw[if_neg (by omega),if_neg (by omega)]⟩
            | (refine⟨_,rfl,_,_,rfl,⟨fun h=>?_,fun hok=>?_⟩,fun h=>?_⟩
               rotate_left
               rotate_left
               exfalso;omega
               exfalso;omega
               exfalso
               rcases hok with ⟨hk,ha,hl,hg⟩ | ⟨hk,ha,hl,hg⟩ | ⟨hk,hz,hn,ht⟩
               all_goals first
                | omega
                | exact h57 (he.2 hl)
                | exact h57 (he.2 ⟨hl,hg⟩)
                | exact h57 (he.2 ⟨hn,ht⟩)
                | exact absurd (hal.2 ha) (by rw[h15];decide)
                | exact absurd (hal.2 ha) (by rw[h27];decide)
                | exact absurd hz (of_decide_eq_false h38))
          ·
           refine WP.skip<|X.thenN<|WP.regs<|L.move rfl<|L.assign rfl<|L.assign rfl<|WL.nil<|WP.ret<|X.ret rfl (Res.two rfl rfl rfl) ?_
           first
            | exact⟨_,rfl,_,_,rfl,⟨fun _=>.inl ⟨h18,hal.1 h15,he.1 (by omega),by omega⟩,fun _=>rfl⟩,fun _=>by unfold kindV;rw[if_pos h18]⟩
            | exact⟨_,rfl,_,_,rfl,⟨fun _=>.inr (.inl ⟨h30,hal.1 h27,(he.1 (by omega)).1,(he.1 (by omega)).2⟩),fun _=>rfl⟩,fun _=>by unfold kindV;rw[if_neg (by omega),if_pos h30]⟩
            | exact⟨_,rfl,_,_,rfl,⟨fun _=>.inr (.inr ⟨h41,of_decide_eq_true h38,(he.1 (by omega)).1,(he.1 (by omega)).2⟩),fun _=>rfl⟩,fun _=>by unfold kindV;rw[if_neg (by omega),if_neg (by omega)]⟩
            | (refine⟨_,rfl,_,_,rfl,⟨fun h=>?_,fun hok=>?_⟩,fun h=>?_⟩
               rotate_left
               rotate_left
               exfalso;omega
               exfalso;omega
               exfalso
               rcases hok with ⟨hk,ha,hl,hg⟩ | ⟨hk,ha,hl,hg⟩ | ⟨hk,hz,hn,ht⟩
               all_goals first
                | omega
                | exact h57 (he.2 hl)
                | exact h57 (he.2 ⟨hl,hg⟩)
                | exact h57 (he.2 ⟨hn,ht⟩)
                | exact absurd (hal.2 ha) (by rw[h15];decide)
                | exact absurd (hal.2 ha) (by rw[h27];decide)
                | exact absurd hz (of_decide_eq_false h38))
         ·
          refine L.move rfl<|L.skip<|L.skip<|L.skip<|L.skip<|L.pickF rfl rfl<|WL.nil<|WP.condF rfl<|WP.skip<|X.thenN<|WP.regs<|L.move rfl<|L.assign rfl<|L.assign rfl<|WL.nil<|WP.ret<|X.ret rfl (Res.two rfl rfl rfl) ?_
          first
           | exact⟨_,rfl,_,_,rfl,⟨fun _=>.inl ⟨h18,hal.1 h15,he.1 (by omega),by omega⟩,fun _=>rfl⟩,fun _=>by unfold kindV;rw[if_pos h18]⟩
           | exact⟨_,rfl,_,_,rfl,⟨fun _=>.inr (.inl ⟨h30,hal.1 h27,(he.1 (by omega)).1,(he.1 (by omega)).2⟩),fun _=>rfl⟩,fun _=>by unfold kindV;rw[if_neg (by omega),if_pos h30]⟩
           | exact⟨_,rfl,_,_,rfl,⟨fun _=>.inr (.inr ⟨h41,of_decide_eq_true h38,(he.1 (by omega)).1,(he.1 (by omega)).2⟩),fun _=>rfl⟩,fun _=>by unfold kindV;rw[if_neg (by omega),if_neg (by omega)]⟩
           | (refine⟨_,rfl,_,_,rfl,⟨fun h=>?_,fun hok=>?_⟩,fun h=>?_⟩
              rotate_left
              rotate_left
              exfalso;omega
              exfalso;omega
              exfalso
              rcases hok with ⟨hk,ha,hl,hg⟩ | ⟨hk,ha,hl,hg⟩ | ⟨hk,hz,hn,ht⟩
              all_goals first
               | omega
               | exact h57 (he.2 hl)
               | exact h57 (he.2 ⟨hl,hg⟩)
               | exact h57 (he.2 ⟨hn,ht⟩)
               | exact absurd (hal.2 ha) (by rw[h15];decide)
               | exact absurd (hal.2 ha) (by rw[h27];decide)
               | exact absurd hz (of_decide_eq_false h38))
       ·
        refine WP.regs<|L.assign rfl<|L.assign rfl<|WL.nil<|WP.ret<|X.blockR (X.thenR ?_);refine X.ret rfl (Res.two rfl rfl rfl) ?_
        first
         | exact⟨_,rfl,_,_,rfl,⟨fun _=>.inl ⟨h18,hal.1 h15,he.1 (by omega),by omega⟩,fun _=>rfl⟩,fun _=>by unfold kindV;rw[if_pos h18]⟩
         | exact⟨_,rfl,_,_,rfl,⟨fun _=>.inr (.inl ⟨h30,hal.1 h27,(he.1 (by omega)).1,(he.1 (by omega)).2⟩),fun _=>rfl⟩,fun _=>by unfold kindV;rw[if_neg (by omega),if_pos h30]⟩
         | exact⟨_,rfl,_,_,rfl,⟨fun _=>.inr (.inr ⟨h41,of_decide_eq_true h38,(he.1 (by omega)).1,(he.1 (by omega)).2⟩),fun _=>rfl⟩,fun _=>by unfold kindV;rw[if_neg (by omega),if_neg (by omega)]⟩
         | (refine⟨_,rfl,_,_,rfl,⟨fun h=>?_,fun hok=>?_⟩,fun h=>?_⟩
            rotate_left
            rotate_left
            exfalso;omega
            exfalso;omega
            exfalso
            rcases hok with ⟨hk,ha,hl,hg⟩ | ⟨hk,ha,hl,hg⟩ | ⟨hk,hz,hn,ht⟩
            all_goals first
             | omega
             | exact h57 (he.2 hl)
             | exact h57 (he.2 ⟨hl,hg⟩)
             | exact h57 (he.2 ⟨hn,ht⟩)
             | exact absurd (hal.2 ha) (by rw[h15];decide)
             | exact absurd (hal.2 ha) (by rw[h27];decide)
             | exact absurd hz (of_decide_eq_false h38))
      ·
       refine L.move rfl<|L.skip<|L.skip<|L.skip<|L.skip<|L.pickF rfl rfl<|L.assign rfl<|WL.nil<|WP.condF rfl<|WP.regs<|L.assign rfl<|L.assign rfl<|WL.nil<|WP.ret<|X.blockR (X.thenR ?_);refine X.ret rfl (Res.two rfl rfl rfl) ?_
       first
        | exact⟨_,rfl,_,_,rfl,⟨fun _=>.inl ⟨h18,hal.1 h15,he.1 (by omega),by omega⟩,fun _=>rfl⟩,fun _=>by unfold kindV;rw[if_pos h18]⟩
        | exact⟨_,rfl,_,_,rfl,⟨fun _=>.inr (.inl ⟨h30,hal.1 h27,(he.1 (by omega)).1,(he.1 (by omega)).2⟩),fun _=>rfl⟩,fun _=>by unfold kindV;rw[if_neg (by omega),if_pos h30]⟩
        | exact⟨_,rfl,_,_,rfl,⟨fun _=>.inr (.inr ⟨h41,of_decide_eq_true h38,(he.1 (by omega)).1,(he.1 (by omega)).2⟩),fun _=>rfl⟩,fun _=>by unfold kindV;rw[if_neg (by omega),if_neg (by omega)]⟩
        | (refine⟨_,rfl,_,_,rfl,⟨fun h=>?_,fun hok=>?_⟩,fun h=>?_⟩
           rotate_left
           rotate_left
           exfalso;omega
           exfalso;omega
           exfalso
           rcases hok with ⟨hk,ha,hl,hg⟩ | ⟨hk,ha,hl,hg⟩ | ⟨hk,hz,hn,ht⟩
           all_goals first
            | omega
            | exact h57 (he.2 hl)
            | exact h57 (he.2 ⟨hl,hg⟩)
            | exact h57 (he.2 ⟨hn,ht⟩)
            | exact absurd (hal.2 ha) (by rw[h15];decide)
            | exact absurd (hal.2 ha) (by rw[h27];decide)
            | exact absurd hz (of_decide_eq_false h38))
   ·
    refine L.move rfl<|L.skip<|L.pickF rfl rfl<|L.assign rfl<|WL.nil<|WP.condF rfl<|WP.regs<|L.fieldAddr (o':=0) T32.f0 rfl rfl<|L.load T5.sc rfl (Rd.own 0 rfl rfl)<|L.eqlD rfl rfl (fun h30=>?_) (fun h30=>?_)
    ·
     refine L.move rfl<|L.move rfl<|L.pickT rfl rfl<|L.assign rfl<|WL.nil<|WP.cond rfl (fun h27=>?_) (fun h27=>?_)
     ·
      refine WP.region<|L.fieldAddr (o':=1) T32.f1 rfl rfl<|L.loadN T26.ag rfl rfl (Rds.own (vs:=[_,_,_,_]) 0 rfl rfl)<|L.build (cs:=[_,_,_,_]) T198.b T198.z rfl rfl<|L.mkIface T198.u rfl rfl<|L.assign rfl<|WL.nil<|X.blockN<|X.thenN<|WP.seq<|WP.regs<|L.move rfl<|WL.inv rfl rfl rfl (M198_check _) F202.fn rfl (FT.pureR fun g gS dj=>fading_check r.life r.gst) ?_;rintro _ _ ⟨⟨e,rfl,he⟩,rfl⟩;refine L.assign rfl<|WL.nil<|WP.regs<|L.move rfl<|L.neq rfl rfl<|WL.nil<|WP.condD rfl (fun h57=>?_) (fun h57=>?_)
      ·
       refine WP.regs<|L.move rfl<|L.assign rfl<|L.assign rfl<|WL.nil<|WP.ret<|X.thenR<|X.ret rfl (Res.two rfl rfl rfl) ?_
       first
        | exact⟨_,rfl,_,_,rfl,⟨fun _=>.inl ⟨h18,hal.1 h15,he.1 (by omega),by omega⟩,fun _=>rfl⟩,fun _=>by unfold kindV;rw[if_pos h18]⟩
        | exact⟨_,rfl,_,_,rfl,⟨fun _=>.inr (.inl ⟨h30,hal.1 h27,(he.1 (by omega)).1,(he.1 (by omega)).2⟩),fun _=>rfl⟩,fun _=>by unfold kindV;rw[if_neg (by omega),if_pos h30]⟩
        | exact⟨_,rfl,_,_,rfl,⟨fun _=>.inr (.inr ⟨h41,of_decide_eq_true h38,(he.1 (by omega)).1,(he.1 (by omega)).2⟩),fun _=>rfl⟩,fun _=>by unfold kindV;rw[if_neg (by omega),if_neg (by omega)]⟩
        | (refine⟨_,rfl,_,_,rfl,⟨fun h=>?_,fun hok=>?_⟩,fun h=>?_⟩
           rotate_left
           rotate_left
           exfalso;omega
           exfalso;omega
           exfalso
           rcases hok with ⟨hk,ha,hl,hg⟩ | ⟨hk,ha,hl,hg⟩ | ⟨hk,hz,hn,ht⟩
           all_goals first
            | omega
            | exact h57 (he.2 hl)
            | exact h57 (he.2 ⟨hl,hg⟩)
            | exact h57 (he.2 ⟨hn,ht⟩)
            | exact absurd (hal.2 ha) (by rw[h15];decide)
            | exact absurd (hal.2 ha) (by rw[h27];decide)
            | exact absurd hz (of_decide_eq_false h38))
      ·
       refine WP.skip<|X.thenN<|WP.seq<|WP.regs<|L.fieldAddr (o':=0) T32.f0 rfl rfl<|L.load T5.sc rfl (Rd.own 0 rfl rfl)<|L.eqlD rfl rfl (fun h61=>?_) (fun h61=>?_)
       ·
        refine L.move rfl<|L.fieldAddr (o':=1) T32.f1 rfl rfl<|L.fieldAddr (o':=4) T26.f1 rfl rfl<|L.load T3.sc rfl (Rd.own 0 rfl rfl)<|L.neq rfl rfl<|L.pickT rfl rfl<|WL.nil<|WP.condD rfl (fun h67=>?_) (fun h67=>?_)
        ·
         refine WP.regs<|L.assign rfl<|L.assign rfl<|WL.nil<|WP.ret<|X.thenR<|X.ret rfl (Res.two rfl rfl rfl) ?_
         first
          | exact⟨_,rfl,_,_,rfl,⟨fun _=>.inl ⟨h18,hal.1 h15,he.1 (by omega),by omega⟩,fun _=>rfl⟩,fun _=>by unfold kindV;rw[if_pos h18]⟩
          | exact⟨_,rfl,_,_,rfl,⟨fun _=>.inr (.inl ⟨h30,hal.1 h27,(he.1 (by omega)).1,(he.1 (by omega)).2⟩),fun _=>rfl⟩,fun _=>by unfold kindV;rw[if_neg (by omega),if_pos h30]⟩
          | exact⟨_,rfl,_,_,rfl,⟨fun _=>.inr (.inr ⟨h41,of_decide_eq_true h38,(he.1 (by omega)).1,(he.1 (by omega)).2⟩),fun _=>rfl⟩,fun _=>by unfold kindV;rw[if_neg (by omega),if_neg (by omega)]⟩
          | (refine⟨_,rfl,_,_,rfl,⟨fun h=>?_,fun hok=>?_⟩,fun h=>?_⟩
             rotate_left
             rotate_left
             exfalso;omega
             exfalso;omega
             exfalso
             rcases hok with ⟨hk,ha,hl,hg⟩ | ⟨hk,ha,hl,hg⟩ | ⟨hk,hz,hn,ht⟩
             all_goals first
              | omega
              | exact h57 (he.2 hl)
              | exact h57 (he.2 ⟨hl,hg⟩)
              | exact h57 (he.2 ⟨hn,ht⟩)
              | exact absurd (hal.2 ha) (by rw[h15];decide)
              | exact absurd (hal.2 ha) (by rw[h27];decide)
              | exact absurd hz (of_decide_eq_false h38))
        ·
         refine WP.skip<|X.thenN<|WP.regs<|L.move rfl<|L.assign rfl<|L.assign rfl<|WL.nil<|WP.ret<|X.ret rfl (Res.two rfl rfl rfl) ?_
         first
          | exact⟨_,rfl,_,_,rfl,⟨fun _=>.inl ⟨h18,hal.1 h15,he.1 (by omega),by omega⟩,fun _=>rfl⟩,fun _=>by unfold kindV;rw[if_pos h18]⟩
          | exact⟨_,rfl,_,_,rfl,⟨fun _=>.inr (.inl ⟨h30,hal.1 h27,(he.1 (by omega)).1,(he.1 (by omega)).2⟩),fun _=>rfl⟩,fun _=>by unfold kindV;rw[if_neg (by omega),if_pos h30]⟩
          | exact⟨_,rfl,_,_,rfl,⟨fun _=>.inr (.inr ⟨h41,of_decide_eq_true h38,(he.1 (by omega)).1,(he.1 (by omega)).2⟩),fun _=>rfl⟩,fun _=>by unfold kindV;rw[if_neg (by omega),if_neg (by omega)]⟩
          | (refine⟨_,rfl,_,_,rfl,⟨fun h=>?_,fun hok=>?_⟩,fun h=>?_⟩
             rotate_left
             rotate_left
             exfalso;omega
             exfalso;omega
             exfalso
             rcases hok with ⟨hk,ha,hl,hg⟩ | ⟨hk,ha,hl,hg⟩ | ⟨hk,hz,hn,ht⟩
             all_goals first
              | omega
              | exact h57 (he.2 hl)
              | exact h57 (he.2 ⟨hl,hg⟩)
              | exact h57 (he.2 ⟨hn,ht⟩)
              | exact absurd (hal.2 ha) (by rw[h15];decide)
              | exact absurd (hal.2 ha) (by rw[h27];decide)
              | exact absurd hz (of_decide_eq_false h38))
       ·
        refine L.move rfl<|L.skip<|L.skip<|L.skip<|L.skip<|L.pickF rfl rfl<|WL.nil<|WP.condF rfl<|WP.skip<|X.thenN<|WP.regs<|L.move rfl<|L.assign rfl<|L.assign rfl<|WL.nil<|WP.ret<|X.ret rfl (Res.two rfl rfl rfl) ?_
        first
         | exact⟨_,rfl,_,_,rfl,⟨fun _=>.inl ⟨h18,hal.1 h15,he.1 (by omega),by omega⟩,fun _=>rfl⟩,fun _=>by unfold kindV;rw[if_pos h18]⟩
         | exact⟨_,rfl,_,_,rfl,⟨fun _=>.inr (.inl ⟨h30,hal.1 h27,(he.1 (by omega)).1,(he.1 (by omega)).2⟩),fun _=>rfl⟩,fun _=>by unfold kindV;rw[if_neg (by omega),if_pos h30]⟩
         | exact⟨_,rfl,_,_,rfl,⟨fun _=>.inr (.inr ⟨h41,of_decide_eq_true h38,(he.1 (by omega)).1,(he.1 (by omega)).2⟩),fun _=>rfl⟩,fun _=>by unfold kindV;rw[if_neg (by omega),if_neg (by omega)]⟩
         | (refine⟨_,rfl,_,_,rfl,⟨fun h=>?_,fun hok=>?_⟩,fun h=>?_⟩
            rotate_left
            rotate_left
            exfalso;omega
            exfalso;omega
            exfalso
            rcases hok with ⟨hk,ha,hl,hg⟩ | ⟨hk,ha,hl,hg⟩ | ⟨hk,hz,hn,ht⟩
            all_goals first
             | omega
             | exact h57 (he.2 hl)
             | exact h57 (he.2 ⟨hl,hg⟩)
             | exact h57 (he.2 ⟨hn,ht⟩)
             | exact absurd (hal.2 ha) (by rw[h15];decide)
             | exact absurd (hal.2 ha) (by rw[h27];decide)
             | exact absurd hz (of_decide_eq_false h38))
     ·
      refine WP.regs<|L.fieldAddr (o':=0) T32.f0 rfl rfl<|L.load T5.sc rfl (Rd.own 0 rfl rfl)<|L.eqlD rfl rfl (fun h41=>?_) (fun h41=>?_)
      ·
       refine L.move rfl<|L.fieldAddr (o':=1) T32.f1 rfl rfl<|L.loadN T26.ag rfl rfl (Rds.own (vs:=[_,_,_,_]) 0 rfl rfl)<|L.build (cs:=[_,_,_,_]) T26.b T26.z rfl rfl<|L.eqlOf T26.eg rfl rfl (run_equal_gens r.life r.gst)<|L.pickT rfl rfl<|L.assign rfl<|WL.nil<|WP.cond rfl (fun h38=>?_) (fun h38=>?_)
       ·
        refine WP.region<|L.fieldAddr (o':=5) T32.f2 rfl rfl<|L.load T9.sc rfl (Rd.own 0 rfl rfl)<|L.fieldAddr (o':=6) T32.f3 rfl rfl<|L.loadN T30.ag rfl rfl (Rds.own (vs:=[_,_,_,_,_]) 0 rfl rfl)<|L.build (cs:=[_,_,_,_,_,_]) T200.b T200.z rfl rfl<|L.mkIface T200.u rfl rfl<|L.assign rfl<|WL.nil<|X.blockN<|X.thenN<|WP.seq<|WP.regs<|L.move rfl<|WL.inv rfl rfl rfl (M200_check _) F211.fn rfl (FT.pureR fun g gS dj=>told_check r.name hw.name r.table hw.table _ _ (hta0.mono (Hp.le_un_left _ _))) ?_;rintro _ _ ⟨⟨e,rfl,he⟩,rfl⟩;refine L.assign rfl<|WL.nil<|WP.regs<|L.move rfl<|L.neq rfl rfl<|WL.nil<|WP.condD rfl (fun h57=>?_) (fun h57=>?_)
        ·
         refine WP.regs<|L.move rfl<|L.assign rfl<|L.assign rfl<|WL.nil<|WP.ret<|X.thenR<|X.ret rfl (Res.two rfl rfl rfl) ?_
         first
          | exact⟨_,rfl,_,_,rfl,⟨fun _=>.inl ⟨h18,hal.1 h15,he.1 (by omega),by omega⟩,fun _=>rfl⟩,fun _=>by unfold kindV;rw[if_pos h18]⟩
          | exact⟨_,rfl,_,_,rfl,⟨fun _=>.inr (.inl ⟨h30,hal.1 h27,(he.1 (by omega)).1,(he.1 (by omega)).2⟩),fun _=>rfl⟩,fun _=>by unfold kindV;rw[if_neg (by omega),if_pos h30]⟩
          | exact⟨_,rfl,_,_,rfl,⟨fun _=>.inr (.inr ⟨h41,of_decide_eq_true h38,(he.1 (by omega)).1,(he.1 (by omega)).2⟩),fun _=>rfl⟩,fun _=>by unfold kindV;rw[if_neg (by omega),if_neg (by omega)]⟩
          | (refine⟨_,rfl,_,_,rfl,⟨fun h=>?_,fun hok=>?_⟩,fun h=>?_⟩
             rotate_left
             rotate_left
             exfalso;omega
             exfalso;omega
             exfalso
             rcases hok with ⟨hk,ha,hl,hg⟩ | ⟨hk,ha,hl,hg⟩ | ⟨hk,hz,hn,ht⟩
             all_goals first
              | omega
              | exact h57 (he.2 hl)
              | exact h57 (he.2 ⟨hl,hg⟩)
              | exact h57 (he.2 ⟨hn,ht⟩)
              | exact absurd (hal.2 ha) (by rw[h15];decide)
              | exact absurd (hal.2 ha) (by rw[h27];decide)
              | exact absurd hz (of_decide_eq_false h38))
        ·
         refine WP.skip<|X.thenN<|WP.seq<|WP.regs<|L.fieldAddr (o':=0) T32.f0 rfl rfl<|L.load T5.sc rfl (Rd.own 0 rfl rfl)<|L.eqlD rfl rfl (fun h61=>?_) (fun h61=>?_)
         ·
          refine L.move rfl<|L.fieldAddr (o':=1) T32.f1 rfl rfl<|L.fieldAddr (o':=4) T26.f1 rfl rfl<|L.load T3.sc rfl (Rd.own 0 rfl rfl)<|L.neq rfl rfl<|L.pickT rfl rfl<|WL.nil<|WP.condD rfl (fun h67=>?_) (fun h67=>?_)
          ·
           refine WP.regs<|L.assign rfl<|L.assign rfl<|WL.nil<|WP.ret<|X.thenR<|X.ret rfl (Res.two rfl rfl rfl) ?_
           first
            | exact⟨_,rfl,_,_,rfl,⟨fun _=>.inl ⟨h18,hal.1 h15,he.1 (by omega),by omega⟩,fun _=>rfl⟩,fun _=>by unfold kindV;rw[if_pos h18]⟩
            | exact⟨_,rfl,_,_,rfl,⟨fun _=>.inr (.inl ⟨h30,hal.1 h27,(he.1 (by omega)).1,(he.1 (by omega)).2⟩),fun _=>rfl⟩,fun _=>by unfold kindV;rw[if_neg (by omega),if_pos h30]⟩
            | exact⟨_,rfl,_,_,rfl,⟨fun _=>.inr (.inr ⟨h41,of_decide_eq_true h38,(he.1 (by omega)).1,(he.1 (by omega)).2⟩),fun _=>rfl⟩,fun _=>by unfold kindV;rw[if_neg (by omega),if_neg (by omega)]⟩
            | (refine⟨_,rfl,_,_,rfl,⟨fun h=>?_,fun hok=>?_⟩,fun h=>?_⟩
               rotate_left
               rotate_left
               exfalso;omega
               exfalso;omega
               exfalso
               rcases hok with ⟨hk,ha,hl,hg⟩ | ⟨hk,ha,hl,hg⟩ | ⟨hk,hz,hn,ht⟩
               all_goals first
                | omega
                | exact h57 (he.2 hl)
                | exact h57 (he.2 ⟨hl,hg⟩)
                | exact h57 (he.2 ⟨hn,ht⟩)
                | exact absurd (hal.2 ha) (by rw[h15];decide)
                | exact absurd (hal.2 ha) (by rw[h27];decide)
                | exact absurd hz (of_decide_eq_false h38))
          ·
           refine WP.skip<|X.thenN<|WP.regs<|L.move rfl<|L.assign rfl<|L.assign rfl<|WL.nil<|WP.ret<|X.ret rfl (Res.two rfl rfl rfl) ?_
           first
            | exact⟨_,rfl,_,_,rfl,⟨fun _=>.inl ⟨h18,hal.1 h15,he.1 (by omega),by omega⟩,fun _=>rfl⟩,fun _=>by unfold kindV;rw[if_pos h18]⟩
            | exact⟨_,rfl,_,_,rfl,⟨fun _=>.inr (.inl ⟨h30,hal.1 h27,(he.1 (by omega)).1,(he.1 (by omega)).2⟩),fun _=>rfl⟩,fun _=>by unfold kindV;rw[if_neg (by omega),if_pos h30]⟩
            | exact⟨_,rfl,_,_,rfl,⟨fun _=>.inr (.inr ⟨h41,of_decide_eq_true h38,(he.1 (by omega)).1,(he.1 (by omega)).2⟩),fun _=>rfl⟩,fun _=>by unfold kindV;rw[if_neg (by omega),if_neg (by omega)]⟩
            | (refine⟨_,rfl,_,_,rfl,⟨fun h=>?_,fun hok=>?_⟩,fun h=>?_⟩
               rotate_left
               rotate_left
               exfalso;omega
               exfalso;omega
               exfalso
               rcases hok with ⟨hk,ha,hl,hg⟩ | ⟨hk,ha,hl,hg⟩ | ⟨hk,hz,hn,ht⟩
               all_goals first
                | omega
                | exact h57 (he.2 hl)
                | exact h57 (he.2 ⟨hl,hg⟩)
                | exact h57 (he.2 ⟨hn,ht⟩)
                | exact absurd (hal.2 ha) (by rw[h15];decide)
                | exact absurd (hal.2 ha) (by rw[h27];decide)
                | exact absurd hz (of_decide_eq_false h38))
         ·
          refine L.move rfl<|L.skip<|L.skip<|L.skip<|L.skip<|L.pickF rfl rfl<|WL.nil<|WP.condF rfl<|WP.skip<|X.thenN<|WP.regs<|L.move rfl<|L.assign rfl<|L.assign rfl<|WL.nil<|WP.ret<|X.ret rfl (Res.two rfl rfl rfl) ?_
          first
           | exact⟨_,rfl,_,_,rfl,⟨fun _=>.inl ⟨h18,hal.1 h15,he.1 (by omega),by omega⟩,fun _=>rfl⟩,fun _=>by unfold kindV;rw[if_pos h18]⟩
           | exact⟨_,rfl,_,_,rfl,⟨fun _=>.inr (.inl ⟨h30,hal.1 h27,(he.1 (by omega)).1,(he.1 (by omega)).2⟩),fun _=>rfl⟩,fun _=>by unfold kindV;rw[if_neg (by omega),if_pos h30]⟩
           | exact⟨_,rfl,_,_,rfl,⟨fun _=>.inr (.inr ⟨h41,of_decide_eq_true h38,(he.1 (by omega)).1,(he.1 (by omega)).2⟩),fun _=>rfl⟩,fun _=>by unfold kindV;rw[if_neg (by omega),if_neg (by omega)]⟩
           | (refine⟨_,rfl,_,_,rfl,⟨fun h=>?_,fun hok=>?_⟩,fun h=>?_⟩
              rotate_left
              rotate_left
              exfalso;omega
              exfalso;omega
              exfalso
              rcases hok with ⟨hk,ha,hl,hg⟩ | ⟨hk,ha,hl,hg⟩ | ⟨hk,hz,hn,ht⟩
              all_goals first
               | omega
               | exact h57 (he.2 hl)
               | exact h57 (he.2 ⟨hl,hg⟩)
               | exact h57 (he.2 ⟨hn,ht⟩)
               | exact absurd (hal.2 ha) (by rw[h15];decide)
               | exact absurd (hal.2 ha) (by rw[h27];decide)
               | exact absurd hz (of_decide_eq_false h38))
       ·
        refine WP.regs<|L.assign rfl<|L.assign rfl<|WL.nil<|WP.ret<|X.blockR (X.thenR ?_);refine X.ret rfl (Res.two rfl rfl rfl) ?_
        first
         | exact⟨_,rfl,_,_,rfl,⟨fun _=>.inl ⟨h18,hal.1 h15,he.1 (by omega),by omega⟩,fun _=>rfl⟩,fun _=>by unfold kindV;rw[if_pos h18]⟩
         | exact⟨_,rfl,_,_,rfl,⟨fun _=>.inr (.inl ⟨h30,hal.1 h27,(he.1 (by omega)).1,(he.1 (by omega)).2⟩),fun _=>rfl⟩,fun _=>by unfold kindV;rw[if_neg (by omega),if_pos h30]⟩
         | exact⟨_,rfl,_,_,rfl,⟨fun _=>.inr (.inr ⟨h41,of_decide_eq_true h38,(he.1 (by omega)).1,(he.1 (by omega)).2⟩),fun _=>rfl⟩,fun _=>by unfold kindV;rw[if_neg (by omega),if_neg (by omega)]⟩
         | (refine⟨_,rfl,_,_,rfl,⟨fun h=>?_,fun hok=>?_⟩,fun h=>?_⟩
            rotate_left
            rotate_left
            exfalso;omega
            exfalso;omega
            exfalso
            rcases hok with ⟨hk,ha,hl,hg⟩ | ⟨hk,ha,hl,hg⟩ | ⟨hk,hz,hn,ht⟩
            all_goals first
             | omega
             | exact h57 (he.2 hl)
             | exact h57 (he.2 ⟨hl,hg⟩)
             | exact h57 (he.2 ⟨hn,ht⟩)
             | exact absurd (hal.2 ha) (by rw[h15];decide)
             | exact absurd (hal.2 ha) (by rw[h27];decide)
             | exact absurd hz (of_decide_eq_false h38))
      ·
       refine L.move rfl<|L.skip<|L.skip<|L.skip<|L.skip<|L.pickF rfl rfl<|L.assign rfl<|WL.nil<|WP.condF rfl<|WP.regs<|L.assign rfl<|L.assign rfl<|WL.nil<|WP.ret<|X.blockR (X.thenR ?_);refine X.ret rfl (Res.two rfl rfl rfl) ?_
       first
        | exact⟨_,rfl,_,_,rfl,⟨fun _=>.inl ⟨h18,hal.1 h15,he.1 (by omega),by omega⟩,fun _=>rfl⟩,fun _=>by unfold kindV;rw[if_pos h18]⟩
        | exact⟨_,rfl,_,_,rfl,⟨fun _=>.inr (.inl ⟨h30,hal.1 h27,(he.1 (by omega)).1,(he.1 (by omega)).2⟩),fun _=>rfl⟩,fun _=>by unfold kindV;rw[if_neg (by omega),if_pos h30]⟩
        | exact⟨_,rfl,_,_,rfl,⟨fun _=>.inr (.inr ⟨h41,of_decide_eq_true h38,(he.1 (by omega)).1,(he.1 (by omega)).2⟩),fun _=>rfl⟩,fun _=>by unfold kindV;rw[if_neg (by omega),if_neg (by omega)]⟩
        | (refine⟨_,rfl,_,_,rfl,⟨fun h=>?_,fun hok=>?_⟩,fun h=>?_⟩
           rotate_left
           rotate_left
           exfalso;omega
           exfalso;omega
           exfalso
           rcases hok with ⟨hk,ha,hl,hg⟩ | ⟨hk,ha,hl,hg⟩ | ⟨hk,hz,hn,ht⟩
           all_goals first
            | omega
            | exact h57 (he.2 hl)
            | exact h57 (he.2 ⟨hl,hg⟩)
            | exact h57 (he.2 ⟨hn,ht⟩)
            | exact absurd (hal.2 ha) (by rw[h15];decide)
            | exact absurd (hal.2 ha) (by rw[h27];decide)
            | exact absurd hz (of_decide_eq_false h38))
    ·
     refine L.move rfl<|L.skip<|L.pickF rfl rfl<|L.assign rfl<|WL.nil<|WP.condF rfl<|WP.regs<|L.fieldAddr (o':=0) T32.f0 rfl rfl<|L.load T5.sc rfl (Rd.own 0 rfl rfl)<|L.eqlD rfl rfl (fun h41=>?_) (fun h41=>?_)
     ·
      refine L.move rfl<|L.fieldAddr (o':=1) T32.f1 rfl rfl<|L.loadN T26.ag rfl rfl (Rds.own (vs:=[_,_,_,_]) 0 rfl rfl)<|L.build (cs:=[_,_,_,_]) T26.b T26.z rfl rfl<|L.eqlOf T26.eg rfl rfl (run_equal_gens r.life r.gst)<|L.pickT rfl rfl<|L.assign rfl<|WL.nil<|WP.cond rfl (fun h38=>?_) (fun h38=>?_)
      ·
       refine WP.region<|L.fieldAddr (o':=5) T32.f2 rfl rfl<|L.load T9.sc rfl (Rd.own 0 rfl rfl)<|L.fieldAddr (o':=6) T32.f3 rfl rfl<|L.loadN T30.ag rfl rfl (Rds.own (vs:=[_,_,_,_,_]) 0 rfl rfl)<|L.build (cs:=[_,_,_,_,_,_]) T200.b T200.z rfl rfl<|L.mkIface T200.u rfl rfl<|L.assign rfl<|WL.nil<|X.blockN<|X.thenN<|WP.seq<|WP.regs<|L.move rfl<|WL.inv rfl rfl rfl (M200_check _) F211.fn rfl (FT.pureR fun g gS dj=>told_check r.name hw.name r.table hw.table _ _ (hta0.mono (Hp.le_un_left _ _))) ?_;rintro _ _ ⟨⟨e,rfl,he⟩,rfl⟩;refine L.assign rfl<|WL.nil<|WP.regs<|L.move rfl<|L.neq rfl rfl<|WL.nil<|WP.condD rfl (fun h57=>?_) (fun h57=>?_)
       ·
        refine WP.regs<|L.move rfl<|L.assign rfl<|L.assign rfl<|WL.nil<|WP.ret<|X.thenR<|X.ret rfl (Res.two rfl rfl rfl) ?_
        first
         | exact⟨_,rfl,_,_,rfl,⟨fun _=>.inl ⟨h18,hal.1 h15,he.1 (by omega),by omega⟩,fun _=>rfl⟩,fun _=>by unfold kindV;rw[if_pos h18]⟩
         | exact⟨_,rfl,_,_,rfl,⟨fun _=>.inr (.inl ⟨h30,hal.1 h27,(he.1 (by omega)).1,(he.1 (by omega)).2⟩),fun _=>rfl⟩,fun _=>by unfold kindV;rw[if_neg (by omega),if_pos h30]⟩
         | exact⟨_,rfl,_,_,rfl,⟨fun _=>.inr (.inr ⟨h41,of_decide_eq_true h38,(he.1 (by omega)).1,(he.1 (by omega)).2⟩),fun _=>rfl⟩,fun _=>by unfold kindV;rw[if_neg (by omega),if_neg (by omega)]⟩
         | (refine⟨_,rfl,_,_,rfl,⟨fun h=>?_,fun hok=>?_⟩,fun h=>?_⟩
            rotate_left
            rotate_left
            exfalso;omega
            exfalso;omega
            exfalso
            rcases hok with ⟨hk,ha,hl,hg⟩ | ⟨hk,ha,hl,hg⟩ | ⟨hk,hz,hn,ht⟩
            all_goals first
             | omega
             | exact h57 (he.2 hl)
             | exact h57 (he.2 ⟨hl,hg⟩)
             | exact h57 (he.2 ⟨hn,ht⟩)
             | exact absurd (hal.2 ha) (by rw[h15];decide)
             | exact absurd (hal.2 ha) (by rw[h27];decide)
             | exact absurd hz (of_decide_eq_false h38))
       ·
        refine WP.skip<|X.thenN<|WP.seq<|WP.regs<|L.fieldAddr (o':=0) T32.f0 rfl rfl<|L.load T5.sc rfl (Rd.own 0 rfl rfl)<|L.eqlD rfl rfl (fun h61=>?_) (fun h61=>?_)
        ·
         refine L.move rfl<|L.fieldAddr (o':=1) T32.f1 rfl rfl<|L.fieldAddr (o':=4) T26.f1 rfl rfl<|L.load T3.sc rfl (Rd.own 0 rfl rfl)<|L.neq rfl rfl<|L.pickT rfl rfl<|WL.nil<|WP.condD rfl (fun h67=>?_) (fun h67=>?_)
         ·
          refine WP.regs<|L.assign rfl<|L.assign rfl<|WL.nil<|WP.ret<|X.thenR<|X.ret rfl (Res.two rfl rfl rfl) ?_
          first
           | exact⟨_,rfl,_,_,rfl,⟨fun _=>.inl ⟨h18,hal.1 h15,he.1 (by omega),by omega⟩,fun _=>rfl⟩,fun _=>by unfold kindV;rw[if_pos h18]⟩
           | exact⟨_,rfl,_,_,rfl,⟨fun _=>.inr (.inl ⟨h30,hal.1 h27,(he.1 (by omega)).1,(he.1 (by omega)).2⟩),fun _=>rfl⟩,fun _=>by unfold kindV;rw[if_neg (by omega),if_pos h30]⟩
           | exact⟨_,rfl,_,_,rfl,⟨fun _=>.inr (.inr ⟨h41,of_decide_eq_true h38,(he.1 (by omega)).1,(he.1 (by omega)).2⟩),fun _=>rfl⟩,fun _=>by unfold kindV;rw[if_neg (by omega),if_neg (by omega)]⟩
           | (refine⟨_,rfl,_,_,rfl,⟨fun h=>?_,fun hok=>?_⟩,fun h=>?_⟩
              rotate_left
              rotate_left
              exfalso;omega
              exfalso;omega
              exfalso
              rcases hok with ⟨hk,ha,hl,hg⟩ | ⟨hk,ha,hl,hg⟩ | ⟨hk,hz,hn,ht⟩
              all_goals first
               | omega
               | exact h57 (he.2 hl)
               | exact h57 (he.2 ⟨hl,hg⟩)
               | exact h57 (he.2 ⟨hn,ht⟩)
               | exact absurd (hal.2 ha) (by rw[h15];decide)
               | exact absurd (hal.2 ha) (by rw[h27];decide)
               | exact absurd hz (of_decide_eq_false h38))
         ·
          refine WP.skip<|X.thenN<|WP.regs<|L.move rfl<|L.assign rfl<|L.assign rfl<|WL.nil<|WP.ret<|X.ret rfl (Res.two rfl rfl rfl) ?_
          first
           | exact⟨_,rfl,_,_,rfl,⟨fun _=>.inl ⟨h18,hal.1 h15,he.1 (by omega),by omega⟩,fun _=>rfl⟩,fun _=>by unfold kindV;rw[if_pos h18]⟩
           | exact⟨_,rfl,_,_,rfl,⟨fun _=>.inr (.inl ⟨h30,hal.1 h27,(he.1 (by omega)).1,(he.1 (by omega)).2⟩),fun _=>rfl⟩,fun _=>by unfold kindV;rw[if_neg (by omega),if_pos h30]⟩
           | exact⟨_,rfl,_,_,rfl,⟨fun _=>.inr (.inr ⟨h41,of_decide_eq_true h38,(he.1 (by omega)).1,(he.1 (by omega)).2⟩),fun _=>rfl⟩,fun _=>by unfold kindV;rw[if_neg (by omega),if_neg (by omega)]⟩
           | (refine⟨_,rfl,_,_,rfl,⟨fun h=>?_,fun hok=>?_⟩,fun h=>?_⟩
              rotate_left
              rotate_left
              exfalso;omega
              exfalso;omega
              exfalso
              rcases hok with ⟨hk,ha,hl,hg⟩ | ⟨hk,ha,hl,hg⟩ | ⟨hk,hz,hn,ht⟩
              all_goals first
               | omega
               | exact h57 (he.2 hl)
               | exact h57 (he.2 ⟨hl,hg⟩)
               | exact h57 (he.2 ⟨hn,ht⟩)
               | exact absurd (hal.2 ha) (by rw[h15];decide)
               | exact absurd (hal.2 ha) (by rw[h27];decide)
               | exact absurd hz (of_decide_eq_false h38))
        ·
         refine L.move rfl<|L.skip<|L.skip<|L.skip<|L.skip<|L.pickF rfl rfl<|WL.nil<|WP.condF rfl<|WP.skip<|X.thenN<|WP.regs<|L.move rfl<|L.assign rfl<|L.assign rfl<|WL.nil<|WP.ret<|X.ret rfl (Res.two rfl rfl rfl) ?_
         first
          | exact⟨_,rfl,_,_,rfl,⟨fun _=>.inl ⟨h18,hal.1 h15,he.1 (by omega),by omega⟩,fun _=>rfl⟩,fun _=>by unfold kindV;rw[if_pos h18]⟩
          | exact⟨_,rfl,_,_,rfl,⟨fun _=>.inr (.inl ⟨h30,hal.1 h27,(he.1 (by omega)).1,(he.1 (by omega)).2⟩),fun _=>rfl⟩,fun _=>by unfold kindV;rw[if_neg (by omega),if_pos h30]⟩
          | exact⟨_,rfl,_,_,rfl,⟨fun _=>.inr (.inr ⟨h41,of_decide_eq_true h38,(he.1 (by omega)).1,(he.1 (by omega)).2⟩),fun _=>rfl⟩,fun _=>by unfold kindV;rw[if_neg (by omega),if_neg (by omega)]⟩
          | (refine⟨_,rfl,_,_,rfl,⟨fun h=>?_,fun hok=>?_⟩,fun h=>?_⟩
             rotate_left
             rotate_left
             exfalso;omega
             exfalso;omega
             exfalso
             rcases hok with ⟨hk,ha,hl,hg⟩ | ⟨hk,ha,hl,hg⟩ | ⟨hk,hz,hn,ht⟩
             all_goals first
              | omega
              | exact h57 (he.2 hl)
              | exact h57 (he.2 ⟨hl,hg⟩)
              | exact h57 (he.2 ⟨hn,ht⟩)
              | exact absurd (hal.2 ha) (by rw[h15];decide)
              | exact absurd (hal.2 ha) (by rw[h27];decide)
              | exact absurd hz (of_decide_eq_false h38))
      ·
       refine WP.regs<|L.assign rfl<|L.assign rfl<|WL.nil<|WP.ret<|X.blockR (X.thenR ?_);refine X.ret rfl (Res.two rfl rfl rfl) ?_
       first
        | exact⟨_,rfl,_,_,rfl,⟨fun _=>.inl ⟨h18,hal.1 h15,he.1 (by omega),by omega⟩,fun _=>rfl⟩,fun _=>by unfold kindV;rw[if_pos h18]⟩
        | exact⟨_,rfl,_,_,rfl,⟨fun _=>.inr (.inl ⟨h30,hal.1 h27,(he.1 (by omega)).1,(he.1 (by omega)).2⟩),fun _=>rfl⟩,fun _=>by unfold kindV;rw[if_neg (by omega),if_pos h30]⟩
        | exact⟨_,rfl,_,_,rfl,⟨fun _=>.inr (.inr ⟨h41,of_decide_eq_true h38,(he.1 (by omega)).1,(he.1 (by omega)).2⟩),fun _=>rfl⟩,fun _=>by unfold kindV;rw[if_neg (by omega),if_neg (by omega)]⟩
        | (refine⟨_,rfl,_,_,rfl,⟨fun h=>?_,fun hok=>?_⟩,fun h=>?_⟩
           rotate_left
           rotate_left
           exfalso;omega
           exfalso;omega
           exfalso
           rcases hok with ⟨hk,ha,hl,hg⟩ | ⟨hk,ha,hl,hg⟩ | ⟨hk,hz,hn,ht⟩
           all_goals first
            | omega
            | exact h57 (he.2 hl)
            | exact h57 (he.2 ⟨hl,hg⟩)
            | exact h57 (he.2 ⟨hn,ht⟩)
            | exact absurd (hal.2 ha) (by rw[h15];decide)
            | exact absurd (hal.2 ha) (by rw[h27];decide)
            | exact absurd hz (of_decide_eq_false h38))
     ·
      refine L.move rfl<|L.skip<|L.skip<|L.skip<|L.skip<|L.pickF rfl rfl<|L.assign rfl<|WL.nil<|WP.condF rfl<|WP.regs<|L.assign rfl<|L.assign rfl<|WL.nil<|WP.ret<|X.blockR (X.thenR ?_);refine X.ret rfl (Res.two rfl rfl rfl) ?_
      first
       | exact⟨_,rfl,_,_,rfl,⟨fun _=>.inl ⟨h18,hal.1 h15,he.1 (by omega),by omega⟩,fun _=>rfl⟩,fun _=>by unfold kindV;rw[if_pos h18]⟩
       | exact⟨_,rfl,_,_,rfl,⟨fun _=>.inr (.inl ⟨h30,hal.1 h27,(he.1 (by omega)).1,(he.1 (by omega)).2⟩),fun _=>rfl⟩,fun _=>by unfold kindV;rw[if_neg (by omega),if_pos h30]⟩
       | exact⟨_,rfl,_,_,rfl,⟨fun _=>.inr (.inr ⟨h41,of_decide_eq_true h38,(he.1 (by omega)).1,(he.1 (by omega)).2⟩),fun _=>rfl⟩,fun _=>by unfold kindV;rw[if_neg (by omega),if_neg (by omega)]⟩
       | (refine⟨_,rfl,_,_,rfl,⟨fun h=>?_,fun hok=>?_⟩,fun h=>?_⟩
          rotate_left
          rotate_left
          exfalso;omega
          exfalso;omega
          exfalso
          rcases hok with ⟨hk,ha,hl,hg⟩ | ⟨hk,ha,hl,hg⟩ | ⟨hk,hz,hn,ht⟩
          all_goals first
           | omega
           | exact h57 (he.2 hl)
           | exact h57 (he.2 ⟨hl,hg⟩)
           | exact h57 (he.2 ⟨hn,ht⟩)
           | exact absurd (hal.2 ha) (by rw[h15];decide)
           | exact absurd (hal.2 ha) (by rw[h27];decide)
           | exact absurd hz (of_decide_eq_false h38))
end
end Go.Eng
