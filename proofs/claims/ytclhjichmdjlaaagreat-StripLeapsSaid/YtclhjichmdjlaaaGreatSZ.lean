/- Walks of the functions of the seat over those rules, and plain laws of what they compute. No conditions beyond those in each theorem. -/
import Derived.Test.YtclhjichmdjlaaaGreatSY
import Derived.Test.YtclhjichmdjlaaaGreatSW
import Derived.Test.YtclhjichmdjlaaaGreatSP
set_option linter.unusedSimpArgs false
set_option linter.unusedVariables false
namespace Go.Eng
open Go.RowKit Go.Proofs
section
variable {k:World} {h0:Hp}
theorem sea_RunA (b:Nat) (A:SeaA) (S:SeaD) (K:SeaK S) (hi:Inv S) (htold:S.told=[]) (hm0:S.nodes.length≤S.most) (hmp:0<S.most) (W at0:Int) (rv:Value) (ls:List ByteArray) (hbt:BtsAt h0 rv ls) (hln:ls.length≤1048576) (hsz:∀ i,i<ls.length→(ls.getD i ByteArray.empty).size≤4611686018427387904) (n:Nat) (hn:n≤68719476736) (hcheap:S.t.w*(ls.length:Int)≤1048576):FT Pg 23 [.pointer (some ⟨b,0,none⟩),.agg #[.int .i64 W,.int .i64 at0,rv],.int .i64 (n:Int)] k h0 (seaS b A S) (Ret fun u τ=>∃ (v:Value) (A':SeaA) (S':SeaD) (o:Int × Int × List ByteArray × Int),SeaR S W at0 ls n S' o∧u=.tuple #[.agg #[.int .i64 o.1,.int .i64 o.2.1,v],.int .i64 o.2.2.2]∧τ=rowsP v o.2.2.1::seaS b A' S'):=by
  by_cases hm:mayE S.r S.t W at0 ls=0
  · exact sea_RunG b A S K hi htold hm0 hmp W at0 rv ls hbt hln hsz n hn hm hcheap
  · refine (sea_RunE b A S K hi htold hm0 hmp W at0 rv ls hbt hln hsz n hn hm).mono fun u τ h=>?_
    obtain⟨x,rfl,v,A',rfl,rfl⟩:=h
    exact⟨_,rfl,v,A',S,(0,0,[],mayE S.r S.t W at0 ls),.inl ⟨hm,rfl,rfl⟩,rfl,rfl⟩
end
end Go.Eng
