/-
  No cell of these rows narrows 'for every input' (looked for: loops, veiled, ifaces, maps, wideKeys, modest, calm, conditions, laid).
  DERIVED. THE GIVEN ROWS OF THIS SEAT. 5 by the template 'for every input the law returns true; each argument reads behind the call as it read before'; 0 by the template 'total and deterministic' (their statements: YtclhjichmdjlaaaGreatTotals.lean).
  GIVEN WITH THE SEED: the statements are not yours to turn. If you find one false, say at which input.
  Laid BY PROGRAM, IN A SANDBOX (cutbox-rows.mjs): the forced cells as the released guide's own fill.sh prints them over the translation f8f276b87b1a3407… (all of the seat's roots in one cut). By AI agents, Wed Nov 11 2026. No macro, syntax, notation, axiom, sorry.
-/
import Derived.Test.YtclhjichmdjlaaaGreatChecked
import GoSem.Claim
import GoSem.ClaimJoined
import GoSem.ClaimMapViews
import Derived.JoinedTies
import Derived.KernelRfl
namespace Go.Proofs.YtclhjichmdjlaaaGreat
/- THE CELL 'sum', in the pinned program and in every row, IS THE sha256 OF THE DUMP (.gsa) THAT YtclhjichmdjlaaaGreatProg.lean LOADS. Nothing in Lean hashes anything: it is a label: what it is worth is what the hold of that sum in a sandbox is worth. -/
noncomputable def Tryz.pinned : Pinned := { name := "ytclhjichmdjlaaagreat", sum := "f8f276b87b1a3407cbaf742f92933225620def55509a96e458b0ccdf35f69288", checked := Tryz.checked }
namespace Rows
def none {H : Type} : Left H := { results := [], args := [] }

/-- 'vivariumlaw21.StripScript': WHATEVER THE INPUT: true; the input reads as it did. -/
def stripScriptSpec : ChangeSpec := { name := "stripScript", fn := fun _ => fun
  | [d1, d2, d3, d4] => { results := [.lit (.bool true)], args := [d1, d2, d3, d4] }
  | _ => none }
def stripScriptRow : OpenClaim := { program := "ytclhjichmdjlaaagreat", sum := "f8f276b87b1a3407cbaf742f92933225620def55509a96e458b0ccdf35f69288", func := "vivarium/vivariumlaw21.StripScript", spec := "stripScript", unfollowed := true, recurses := true, plainKeys := false, apart := false }
def StripScriptSaid : Prop := stripScriptRow.holds Tryz.pinned (OpenSpec.ofChange stripScriptSpec)

/-- ITS FALSE NEIGHBOUR: 'it returns false'. Refute it at one input. -/
def stripScriptWrong : ChangeSpec := { name := "stripScript", fn := fun _ => fun
  | [d1, d2, d3, d4] => { results := [.lit (.bool false)], args := [d1, d2, d3, d4] }
  | _ => none }
def StripScriptWrongFalsely : Prop := stripScriptRow.holds Tryz.pinned (OpenSpec.ofChange stripScriptWrong)

/-- 'vivariumlaw21.StripNodes': WHATEVER THE INPUT: true; the input reads as it did. -/
def stripNodesSpec : ChangeSpec := { name := "stripNodes", fn := fun _ => fun
  | [d1, d2, d3, d4, d5] => { results := [.lit (.bool true)], args := [d1, d2, d3, d4, d5] }
  | _ => none }
def stripNodesRow : OpenClaim := { program := "ytclhjichmdjlaaagreat", sum := "f8f276b87b1a3407cbaf742f92933225620def55509a96e458b0ccdf35f69288", func := "vivarium/vivariumlaw21.StripNodes", spec := "stripNodes", unfollowed := true, recurses := true, plainKeys := false, apart := false }
def StripNodesSaid : Prop := stripNodesRow.holds Tryz.pinned (OpenSpec.ofChange stripNodesSpec)

/-- ITS FALSE NEIGHBOUR: 'it returns false'. Refute it at one input. -/
def stripNodesWrong : ChangeSpec := { name := "stripNodes", fn := fun _ => fun
  | [d1, d2, d3, d4, d5] => { results := [.lit (.bool false)], args := [d1, d2, d3, d4, d5] }
  | _ => none }
def StripNodesWrongFalsely : Prop := stripNodesRow.holds Tryz.pinned (OpenSpec.ofChange stripNodesWrong)

/-- 'vivariumlaw21.StripWindow': WHATEVER THE INPUT: true; the input reads as it did. -/
def stripWindowSpec : ChangeSpec := { name := "stripWindow", fn := fun _ => fun
  | [d1, d2, d3, d4, d5] => { results := [.lit (.bool true)], args := [d1, d2, d3, d4, d5] }
  | _ => none }
def stripWindowRow : OpenClaim := { program := "ytclhjichmdjlaaagreat", sum := "f8f276b87b1a3407cbaf742f92933225620def55509a96e458b0ccdf35f69288", func := "vivarium/vivariumlaw21.StripWindow", spec := "stripWindow", unfollowed := true, recurses := true, plainKeys := false, apart := false }
def StripWindowSaid : Prop := stripWindowRow.holds Tryz.pinned (OpenSpec.ofChange stripWindowSpec)

/-- ITS FALSE NEIGHBOUR: 'it returns false'. Refute it at one input. -/
def stripWindowWrong : ChangeSpec := { name := "stripWindow", fn := fun _ => fun
  | [d1, d2, d3, d4, d5] => { results := [.lit (.bool false)], args := [d1, d2, d3, d4, d5] }
  | _ => none }
def StripWindowWrongFalsely : Prop := stripWindowRow.holds Tryz.pinned (OpenSpec.ofChange stripWindowWrong)

/-- 'vivariumlaw21.StripLeaps': WHATEVER THE INPUT: true; the input reads as it did. -/
def stripLeapsSpec : ChangeSpec := { name := "stripLeaps", fn := fun _ => fun
  | [d1, d2, d3, d4, d5] => { results := [.lit (.bool true)], args := [d1, d2, d3, d4, d5] }
  | _ => none }
def stripLeapsRow : OpenClaim := { program := "ytclhjichmdjlaaagreat", sum := "f8f276b87b1a3407cbaf742f92933225620def55509a96e458b0ccdf35f69288", func := "vivarium/vivariumlaw21.StripLeaps", spec := "stripLeaps", unfollowed := true, recurses := true, plainKeys := false, apart := false }
def StripLeapsSaid : Prop := stripLeapsRow.holds Tryz.pinned (OpenSpec.ofChange stripLeapsSpec)

/-- ITS FALSE NEIGHBOUR: 'it returns false'. Refute it at one input. -/
def stripLeapsWrong : ChangeSpec := { name := "stripLeaps", fn := fun _ => fun
  | [d1, d2, d3, d4, d5] => { results := [.lit (.bool false)], args := [d1, d2, d3, d4, d5] }
  | _ => none }
def StripLeapsWrongFalsely : Prop := stripLeapsRow.holds Tryz.pinned (OpenSpec.ofChange stripLeapsWrong)

/-- 'vivariumtop.TopStrip': WHATEVER THE INPUT: true; the input reads as it did. -/
def topStripSpec : ChangeSpec := { name := "topStrip", fn := fun _ => fun
  | [d1, d2, d3, d4, d5] => { results := [.lit (.bool true)], args := [d1, d2, d3, d4, d5] }
  | _ => none }
def topStripRow : OpenClaim := { program := "ytclhjichmdjlaaagreat", sum := "f8f276b87b1a3407cbaf742f92933225620def55509a96e458b0ccdf35f69288", func := "vivarium/vivariumtop.TopStrip", spec := "topStrip", unfollowed := true, recurses := true, plainKeys := false, apart := false }
def TopStripSaid : Prop := topStripRow.holds Tryz.pinned (OpenSpec.ofChange topStripSpec)

/-- ITS FALSE NEIGHBOUR: 'it returns false'. Refute it at one input. -/
def topStripWrong : ChangeSpec := { name := "topStrip", fn := fun _ => fun
  | [d1, d2, d3, d4, d5] => { results := [.lit (.bool false)], args := [d1, d2, d3, d4, d5] }
  | _ => none }
def TopStripWrongFalsely : Prop := topStripRow.holds Tryz.pinned (OpenSpec.ofChange topStripWrong)

/- THE SECOND FORM. 'bulk': how many values and letters a reading holds, each counted each time it is reached (what is shared counts as often as it is met; a slice's spare places count too). A statement '..UptoSaid' is the law's where the arguments, and the package variables that the reading takes, are together of bulk at most 1048576: NARROWER than '..Said'. Prove '..Said' where nothing that the law and all that it calls make is longer than what came in: it says more and counts as full. Else prove '..UptoSaid'. A law counts once. -/
mutual
def uptoBulk {H : Type} : DataW H → Nat
  | .lit (.string bytes) => bytes.length + 1
  | .lit _ => 1
  | .nil => 1
  | .ptr d => uptoBulk d + 1
  | .slice elems spare => uptoBulkAll elems + uptoBulkAll spare + 1
  | .agg parts => uptoBulkAll parts + 1
  | .iface _ d => uptoBulk d + 1
  | .map entries => uptoBulkEntries entries + 1
  | .held _ => 1
def uptoBulkAll {H : Type} : List (DataW H) → Nat
  | [] => 0
  | d :: r => uptoBulk d + uptoBulkAll r
def uptoBulkEntries {H : Type} : List (Lit × DataW H) → Nat
  | [] => 0
  | x :: r => uptoBulkEntry x + uptoBulkEntries r
def uptoBulkEntry {H : Type} : Lit × DataW H → Nat
  | (.string bytes, d) => bytes.length + uptoBulk d + 1
  | (_, d) => uptoBulk d + 1
 end
def uptoSmall : (H : Type) → List (DataW H) → Bool := fun _ ds => decide (uptoBulkAll ds ≤ 1048576)
def OpenSpec.upto (s : _root_.Go.ChangeSpec) : _root_.Go.OpenSpec := { _root_.Go.OpenSpec.ofChange s with cond := some uptoSmall }

/-- 'vivariumlaw21.StripScript', WHERE WHAT IT READS IS OF BULK AT MOST 1048576: true; the input reads as it did. -/
def stripScriptUptoRow : OpenClaim := { program := "ytclhjichmdjlaaagreat", sum := "f8f276b87b1a3407cbaf742f92933225620def55509a96e458b0ccdf35f69288", func := "vivarium/vivariumlaw21.StripScript", spec := "stripScript", unfollowed := true, recurses := true, plainKeys := false, apart := false, narrowed := true }
def StripScriptUptoSaid : Prop := stripScriptUptoRow.holds Tryz.pinned (OpenSpec.upto stripScriptSpec)

/-- 'vivariumlaw21.StripNodes', WHERE WHAT IT READS IS OF BULK AT MOST 1048576: true; the input reads as it did. -/
def stripNodesUptoRow : OpenClaim := { program := "ytclhjichmdjlaaagreat", sum := "f8f276b87b1a3407cbaf742f92933225620def55509a96e458b0ccdf35f69288", func := "vivarium/vivariumlaw21.StripNodes", spec := "stripNodes", unfollowed := true, recurses := true, plainKeys := false, apart := false, narrowed := true }
def StripNodesUptoSaid : Prop := stripNodesUptoRow.holds Tryz.pinned (OpenSpec.upto stripNodesSpec)

/-- 'vivariumlaw21.StripWindow', WHERE WHAT IT READS IS OF BULK AT MOST 1048576: true; the input reads as it did. -/
def stripWindowUptoRow : OpenClaim := { program := "ytclhjichmdjlaaagreat", sum := "f8f276b87b1a3407cbaf742f92933225620def55509a96e458b0ccdf35f69288", func := "vivarium/vivariumlaw21.StripWindow", spec := "stripWindow", unfollowed := true, recurses := true, plainKeys := false, apart := false, narrowed := true }
def StripWindowUptoSaid : Prop := stripWindowUptoRow.holds Tryz.pinned (OpenSpec.upto stripWindowSpec)

/-- 'vivariumlaw21.StripLeaps', WHERE WHAT IT READS IS OF BULK AT MOST 1048576: true; the input reads as it did. -/
def stripLeapsUptoRow : OpenClaim := { program := "ytclhjichmdjlaaagreat", sum := "f8f276b87b1a3407cbaf742f92933225620def55509a96e458b0ccdf35f69288", func := "vivarium/vivariumlaw21.StripLeaps", spec := "stripLeaps", unfollowed := true, recurses := true, plainKeys := false, apart := false, narrowed := true }
def StripLeapsUptoSaid : Prop := stripLeapsUptoRow.holds Tryz.pinned (OpenSpec.upto stripLeapsSpec)

/-- 'vivariumtop.TopStrip', WHERE WHAT IT READS IS OF BULK AT MOST 1048576: true; the input reads as it did. -/
def topStripUptoRow : OpenClaim := { program := "ytclhjichmdjlaaagreat", sum := "f8f276b87b1a3407cbaf742f92933225620def55509a96e458b0ccdf35f69288", func := "vivarium/vivariumtop.TopStrip", spec := "topStrip", unfollowed := true, recurses := true, plainKeys := false, apart := false, narrowed := true }
def TopStripUptoSaid : Prop := topStripUptoRow.holds Tryz.pinned (OpenSpec.upto topStripSpec)

end Rows
end Go.Proofs.YtclhjichmdjlaaaGreat
