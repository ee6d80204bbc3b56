/-
  No cell of these rows narrows 'for every input' (looked for: loops, veiled, ifaces, maps, wideKeys, modest, calm, conditions, laid).
  DERIVED. THE GIVEN ROWS OF THIS SEAT. 12 by the template 'for every input the law returns true; each argument reads behind the call as it read before'; 0 by the template 'total and deterministic' (their statements: YtaoeibfegfkdjaaTotals.lean).
  GIVEN WITH THE SEED: the statements are not yours to turn. If you find one false, say at which input.
  Laid BY PROGRAM, IN A SANDBOX (cutbox-rows.mjs): the forced cells as the released guide's own fill.sh prints them over the translation 56d052081a8d1e45… (all of the seat's roots in one cut). By AI agents, Wed Nov 11 2026. No macro, syntax, notation, axiom, sorry.
-/
import Derived.Test.YtaoeibfegfkdjaaChecked
import GoSem.Claim
import GoSem.ClaimJoined
import GoSem.ClaimMapViews
import Derived.JoinedTies
import Derived.KernelRfl
namespace Go.Proofs.Ytaoeibfegfkdjaa
/- THE CELL 'sum', in the pinned program and in every row, IS THE sha256 OF THE DUMP (.gsa) THAT YtaoeibfegfkdjaaProg.lean LOADS. Nothing in Lean hashes anything: it is a label: what it is worth is what the hold of that sum in a sandbox is worth. -/
noncomputable def Try.pinned : Pinned := { name := "ytaoeibfegfkdjaa", sum := "56d052081a8d1e458c58d9c2e98cf50fb3c5c16fc2300cd6ad23f65b3966fb23", checked := Try.checked }
namespace Rows
def none {H : Type} : Left H := { results := [], args := [] }

/-- 'laws.FnExactConstants': WHATEVER THE INPUT: true; the input reads as it did. -/
def fnExactConstantsSpec : ChangeSpec := { name := "fnExactConstants", fn := fun _ => fun
  | [] => { results := [.lit (.bool true)], args := [] }
  | _ => none }
def fnExactConstantsRow : OpenClaim := { program := "ytaoeibfegfkdjaa", sum := "56d052081a8d1e458c58d9c2e98cf50fb3c5c16fc2300cd6ad23f65b3966fb23", func := "loop.example/quincunx/laws.FnExactConstants", spec := "fnExactConstants", apart := false }
def FnExactConstantsSaid : Prop := fnExactConstantsRow.holds Try.pinned (OpenSpec.ofChange fnExactConstantsSpec)

/-- ITS FALSE NEIGHBOUR: 'it returns false'. Refute it at one input. -/
def fnExactConstantsWrong : ChangeSpec := { name := "fnExactConstants", fn := fun _ => fun
  | [] => { results := [.lit (.bool false)], args := [] }
  | _ => none }
def FnExactConstantsWrongFalsely : Prop := fnExactConstantsRow.holds Try.pinned (OpenSpec.ofChange fnExactConstantsWrong)

/-- 'laws.FnExactMatch': WHATEVER THE INPUT: true; the input reads as it did. -/
def fnExactMatchSpec : ChangeSpec := { name := "fnExactMatch", fn := fun _ => fun
  | [d1, d2] => { results := [.lit (.bool true)], args := [d1, d2] }
  | _ => none }
def fnExactMatchRow : OpenClaim := { program := "ytaoeibfegfkdjaa", sum := "56d052081a8d1e458c58d9c2e98cf50fb3c5c16fc2300cd6ad23f65b3966fb23", func := "loop.example/quincunx/laws.FnExactMatch", spec := "fnExactMatch", recurses := true, apart := false }
def FnExactMatchSaid : Prop := fnExactMatchRow.holds Try.pinned (OpenSpec.ofChange fnExactMatchSpec)

/-- ITS FALSE NEIGHBOUR: 'it returns false'. Refute it at one input. -/
def fnExactMatchWrong : ChangeSpec := { name := "fnExactMatch", fn := fun _ => fun
  | [d1, d2] => { results := [.lit (.bool false)], args := [d1, d2] }
  | _ => none }
def FnExactMatchWrongFalsely : Prop := fnExactMatchRow.holds Try.pinned (OpenSpec.ofChange fnExactMatchWrong)

/-- 'laws.FnMatch': WHATEVER THE INPUT: true; the input reads as it did. -/
def fnMatchSpec : ChangeSpec := { name := "fnMatch", fn := fun _ => fun
  | [d] => { results := [.lit (.bool true)], args := [d] }
  | _ => none }
def fnMatchRow : OpenClaim := { program := "ytaoeibfegfkdjaa", sum := "56d052081a8d1e458c58d9c2e98cf50fb3c5c16fc2300cd6ad23f65b3966fb23", func := "loop.example/quincunx/laws.FnMatch", spec := "fnMatch", recurses := true, apart := false }
def FnMatchSaid : Prop := fnMatchRow.holds Try.pinned (OpenSpec.ofChange fnMatchSpec)

/-- ITS FALSE NEIGHBOUR: 'it returns false'. Refute it at one input. -/
def fnMatchWrong : ChangeSpec := { name := "fnMatch", fn := fun _ => fun
  | [d] => { results := [.lit (.bool false)], args := [d] }
  | _ => none }
def FnMatchWrongFalsely : Prop := fnMatchRow.holds Try.pinned (OpenSpec.ofChange fnMatchWrong)

/-- 'laws.FnExactSetOk': WHATEVER THE INPUT: true; the input reads as it did. -/
def fnExactSetOkSpec : ChangeSpec := { name := "fnExactSetOk", fn := fun _ => fun
  | [d] => { results := [.lit (.bool true)], args := [d] }
  | _ => none }
def fnExactSetOkRow : OpenClaim := { program := "ytaoeibfegfkdjaa", sum := "56d052081a8d1e458c58d9c2e98cf50fb3c5c16fc2300cd6ad23f65b3966fb23", func := "loop.example/quincunx/laws.FnExactSetOk", spec := "fnExactSetOk", apart := false }
def FnExactSetOkSaid : Prop := fnExactSetOkRow.holds Try.pinned (OpenSpec.ofChange fnExactSetOkSpec)

/-- ITS FALSE NEIGHBOUR: 'it returns false'. Refute it at one input. -/
def fnExactSetOkWrong : ChangeSpec := { name := "fnExactSetOk", fn := fun _ => fun
  | [d] => { results := [.lit (.bool false)], args := [d] }
  | _ => none }
def FnExactSetOkWrongFalsely : Prop := fnExactSetOkRow.holds Try.pinned (OpenSpec.ofChange fnExactSetOkWrong)

/-- 'laws.FnExactFieldsOk': WHATEVER THE INPUT: true; the input reads as it did. -/
def fnExactFieldsOkSpec : ChangeSpec := { name := "fnExactFieldsOk", fn := fun _ => fun
  | [d] => { results := [.lit (.bool true)], args := [d] }
  | _ => none }
def fnExactFieldsOkRow : OpenClaim := { program := "ytaoeibfegfkdjaa", sum := "56d052081a8d1e458c58d9c2e98cf50fb3c5c16fc2300cd6ad23f65b3966fb23", func := "loop.example/quincunx/laws.FnExactFieldsOk", spec := "fnExactFieldsOk", apart := false }
def FnExactFieldsOkSaid : Prop := fnExactFieldsOkRow.holds Try.pinned (OpenSpec.ofChange fnExactFieldsOkSpec)

/-- ITS FALSE NEIGHBOUR: 'it returns false'. Refute it at one input. -/
def fnExactFieldsOkWrong : ChangeSpec := { name := "fnExactFieldsOk", fn := fun _ => fun
  | [d] => { results := [.lit (.bool false)], args := [d] }
  | _ => none }
def FnExactFieldsOkWrongFalsely : Prop := fnExactFieldsOkRow.holds Try.pinned (OpenSpec.ofChange fnExactFieldsOkWrong)

/-- 'laws.FnExactListPop': WHATEVER THE INPUT: true; the input reads as it did. -/
def fnExactListPopSpec : ChangeSpec := { name := "fnExactListPop", fn := fun _ => fun
  | [d1, d2] => { results := [.lit (.bool true)], args := [d1, d2] }
  | _ => none }
def fnExactListPopRow : OpenClaim := { program := "ytaoeibfegfkdjaa", sum := "56d052081a8d1e458c58d9c2e98cf50fb3c5c16fc2300cd6ad23f65b3966fb23", func := "loop.example/quincunx/laws.FnExactListPop", spec := "fnExactListPop", apart := false }
def FnExactListPopSaid : Prop := fnExactListPopRow.holds Try.pinned (OpenSpec.ofChange fnExactListPopSpec)

/-- ITS FALSE NEIGHBOUR: 'it returns false'. Refute it at one input. -/
def fnExactListPopWrong : ChangeSpec := { name := "fnExactListPop", fn := fun _ => fun
  | [d1, d2] => { results := [.lit (.bool false)], args := [d1, d2] }
  | _ => none }
def FnExactListPopWrongFalsely : Prop := fnExactListPopRow.holds Try.pinned (OpenSpec.ofChange fnExactListPopWrong)

/-- 'laws.FnExactListSet': WHATEVER THE INPUT: true; the input reads as it did. -/
def fnExactListSetSpec : ChangeSpec := { name := "fnExactListSet", fn := fun _ => fun
  | [d1, d2, d3] => { results := [.lit (.bool true)], args := [d1, d2, d3] }
  | _ => none }
def fnExactListSetRow : OpenClaim := { program := "ytaoeibfegfkdjaa", sum := "56d052081a8d1e458c58d9c2e98cf50fb3c5c16fc2300cd6ad23f65b3966fb23", func := "loop.example/quincunx/laws.FnExactListSet", spec := "fnExactListSet", apart := false }
def FnExactListSetSaid : Prop := fnExactListSetRow.holds Try.pinned (OpenSpec.ofChange fnExactListSetSpec)

/-- ITS FALSE NEIGHBOUR: 'it returns false'. Refute it at one input. -/
def fnExactListSetWrong : ChangeSpec := { name := "fnExactListSet", fn := fun _ => fun
  | [d1, d2, d3] => { results := [.lit (.bool false)], args := [d1, d2, d3] }
  | _ => none }
def FnExactListSetWrongFalsely : Prop := fnExactListSetRow.holds Try.pinned (OpenSpec.ofChange fnExactListSetWrong)

/-- 'laws.FnExactSetBoth': WHATEVER THE INPUT: true; the input reads as it did. -/
def fnExactSetBothSpec : ChangeSpec := { name := "fnExactSetBoth", fn := fun _ => fun
  | [d1, d2] => { results := [.lit (.bool true)], args := [d1, d2] }
  | _ => none }
def fnExactSetBothRow : OpenClaim := { program := "ytaoeibfegfkdjaa", sum := "56d052081a8d1e458c58d9c2e98cf50fb3c5c16fc2300cd6ad23f65b3966fb23", func := "loop.example/quincunx/laws.FnExactSetBoth", spec := "fnExactSetBoth", apart := false }
def FnExactSetBothSaid : Prop := fnExactSetBothRow.holds Try.pinned (OpenSpec.ofChange fnExactSetBothSpec)

/-- ITS FALSE NEIGHBOUR: 'it returns false'. Refute it at one input. -/
def fnExactSetBothWrong : ChangeSpec := { name := "fnExactSetBoth", fn := fun _ => fun
  | [d1, d2] => { results := [.lit (.bool false)], args := [d1, d2] }
  | _ => none }
def FnExactSetBothWrongFalsely : Prop := fnExactSetBothRow.holds Try.pinned (OpenSpec.ofChange fnExactSetBothWrong)

/-- 'laws.FnExactSetLess': WHATEVER THE INPUT: true; the input reads as it did. -/
def fnExactSetLessSpec : ChangeSpec := { name := "fnExactSetLess", fn := fun _ => fun
  | [d1, d2] => { results := [.lit (.bool true)], args := [d1, d2] }
  | _ => none }
def fnExactSetLessRow : OpenClaim := { program := "ytaoeibfegfkdjaa", sum := "56d052081a8d1e458c58d9c2e98cf50fb3c5c16fc2300cd6ad23f65b3966fb23", func := "loop.example/quincunx/laws.FnExactSetLess", spec := "fnExactSetLess", apart := false }
def FnExactSetLessSaid : Prop := fnExactSetLessRow.holds Try.pinned (OpenSpec.ofChange fnExactSetLessSpec)

/-- ITS FALSE NEIGHBOUR: 'it returns false'. Refute it at one input. -/
def fnExactSetLessWrong : ChangeSpec := { name := "fnExactSetLess", fn := fun _ => fun
  | [d1, d2] => { results := [.lit (.bool false)], args := [d1, d2] }
  | _ => none }
def FnExactSetLessWrongFalsely : Prop := fnExactSetLessRow.holds Try.pinned (OpenSpec.ofChange fnExactSetLessWrong)

/-- 'laws.FnExactListRange': WHATEVER THE INPUT: true; the input reads as it did. -/
def fnExactListRangeSpec : ChangeSpec := { name := "fnExactListRange", fn := fun _ => fun
  | [d1, d2, d3] => { results := [.lit (.bool true)], args := [d1, d2, d3] }
  | _ => none }
def fnExactListRangeRow : OpenClaim := { program := "ytaoeibfegfkdjaa", sum := "56d052081a8d1e458c58d9c2e98cf50fb3c5c16fc2300cd6ad23f65b3966fb23", func := "loop.example/quincunx/laws.FnExactListRange", spec := "fnExactListRange", apart := false }
def FnExactListRangeSaid : Prop := fnExactListRangeRow.holds Try.pinned (OpenSpec.ofChange fnExactListRangeSpec)

/-- ITS FALSE NEIGHBOUR: 'it returns false'. Refute it at one input. -/
def fnExactListRangeWrong : ChangeSpec := { name := "fnExactListRange", fn := fun _ => fun
  | [d1, d2, d3] => { results := [.lit (.bool false)], args := [d1, d2, d3] }
  | _ => none }
def FnExactListRangeWrongFalsely : Prop := fnExactListRangeRow.holds Try.pinned (OpenSpec.ofChange fnExactListRangeWrong)

/-- 'laws.FnExactSetDrop': WHATEVER THE INPUT: true; the input reads as it did. -/
def fnExactSetDropSpec : ChangeSpec := { name := "fnExactSetDrop", fn := fun _ => fun
  | [d1, d2] => { results := [.lit (.bool true)], args := [d1, d2] }
  | _ => none }
def fnExactSetDropRow : OpenClaim := { program := "ytaoeibfegfkdjaa", sum := "56d052081a8d1e458c58d9c2e98cf50fb3c5c16fc2300cd6ad23f65b3966fb23", func := "loop.example/quincunx/laws.FnExactSetDrop", spec := "fnExactSetDrop", apart := false }
def FnExactSetDropSaid : Prop := fnExactSetDropRow.holds Try.pinned (OpenSpec.ofChange fnExactSetDropSpec)

/-- ITS FALSE NEIGHBOUR: 'it returns false'. Refute it at one input. -/
def fnExactSetDropWrong : ChangeSpec := { name := "fnExactSetDrop", fn := fun _ => fun
  | [d1, d2] => { results := [.lit (.bool false)], args := [d1, d2] }
  | _ => none }
def FnExactSetDropWrongFalsely : Prop := fnExactSetDropRow.holds Try.pinned (OpenSpec.ofChange fnExactSetDropWrong)

/-- 'laws.FnExactListTrim': WHATEVER THE INPUT: true; the input reads as it did. -/
def fnExactListTrimSpec : ChangeSpec := { name := "fnExactListTrim", fn := fun _ => fun
  | [d1, d2, d3] => { results := [.lit (.bool true)], args := [d1, d2, d3] }
  | _ => none }
def fnExactListTrimRow : OpenClaim := { program := "ytaoeibfegfkdjaa", sum := "56d052081a8d1e458c58d9c2e98cf50fb3c5c16fc2300cd6ad23f65b3966fb23", func := "loop.example/quincunx/laws.FnExactListTrim", spec := "fnExactListTrim", apart := false }
def FnExactListTrimSaid : Prop := fnExactListTrimRow.holds Try.pinned (OpenSpec.ofChange fnExactListTrimSpec)

/-- ITS FALSE NEIGHBOUR: 'it returns false'. Refute it at one input. -/
def fnExactListTrimWrong : ChangeSpec := { name := "fnExactListTrim", fn := fun _ => fun
  | [d1, d2, d3] => { results := [.lit (.bool false)], args := [d1, d2, d3] }
  | _ => none }
def FnExactListTrimWrongFalsely : Prop := fnExactListTrimRow.holds Try.pinned (OpenSpec.ofChange fnExactListTrimWrong)

/- THE SECOND FORM. 'bulk': how many values and letters a reading holds, each counted each time it is reached (what is shared counts as often as it is met; a slice's spare places count too). A statement '..UptoSaid' is the law's where the arguments, and the package variables that the reading takes, are together of bulk at most 1048576: NARROWER than '..Said'. Prove '..Said' where nothing that the law and all that it calls make is longer than what came in: it says more and counts as full. Else prove '..UptoSaid'. A law counts once. -/
mutual
def uptoBulk {H : Type} : DataW H → Nat
  | .lit (.string bytes) => bytes.length + 1
  | .lit _ => 1
  | .nil => 1
  | .ptr d => uptoBulk d + 1
  | .slice elems spare => uptoBulkAll elems + uptoBulkAll spare + 1
  | .agg parts => uptoBulkAll parts + 1
  | .iface _ d => uptoBulk d + 1
  | .map entries => uptoBulkEntries entries + 1
  | .held _ => 1
def uptoBulkAll {H : Type} : List (DataW H) → Nat
  | [] => 0
  | d :: r => uptoBulk d + uptoBulkAll r
def uptoBulkEntries {H : Type} : List (Lit × DataW H) → Nat
  | [] => 0
  | x :: r => uptoBulkEntry x + uptoBulkEntries r
def uptoBulkEntry {H : Type} : Lit × DataW H → Nat
  | (.string bytes, d) => bytes.length + uptoBulk d + 1
  | (_, d) => uptoBulk d + 1
 end
def uptoSmall : (H : Type) → List (DataW H) → Bool := fun _ ds => decide (uptoBulkAll ds ≤ 1048576)
def OpenSpec.upto (s : _root_.Go.ChangeSpec) : _root_.Go.OpenSpec := { _root_.Go.OpenSpec.ofChange s with cond := some uptoSmall }

/-- 'laws.FnExactConstants', WHERE WHAT IT READS IS OF BULK AT MOST 1048576: true; the input reads as it did. -/
def fnExactConstantsUptoRow : OpenClaim := { program := "ytaoeibfegfkdjaa", sum := "56d052081a8d1e458c58d9c2e98cf50fb3c5c16fc2300cd6ad23f65b3966fb23", func := "loop.example/quincunx/laws.FnExactConstants", spec := "fnExactConstants", apart := false, narrowed := true }
def FnExactConstantsUptoSaid : Prop := fnExactConstantsUptoRow.holds Try.pinned (OpenSpec.upto fnExactConstantsSpec)

/-- 'laws.FnExactMatch', WHERE WHAT IT READS IS OF BULK AT MOST 1048576: true; the input reads as it did. -/
def fnExactMatchUptoRow : OpenClaim := { program := "ytaoeibfegfkdjaa", sum := "56d052081a8d1e458c58d9c2e98cf50fb3c5c16fc2300cd6ad23f65b3966fb23", func := "loop.example/quincunx/laws.FnExactMatch", spec := "fnExactMatch", recurses := true, apart := false, narrowed := true }
def FnExactMatchUptoSaid : Prop := fnExactMatchUptoRow.holds Try.pinned (OpenSpec.upto fnExactMatchSpec)

/-- 'laws.FnMatch', WHERE WHAT IT READS IS OF BULK AT MOST 1048576: true; the input reads as it did. -/
def fnMatchUptoRow : OpenClaim := { program := "ytaoeibfegfkdjaa", sum := "56d052081a8d1e458c58d9c2e98cf50fb3c5c16fc2300cd6ad23f65b3966fb23", func := "loop.example/quincunx/laws.FnMatch", spec := "fnMatch", recurses := true, apart := false, narrowed := true }
def FnMatchUptoSaid : Prop := fnMatchUptoRow.holds Try.pinned (OpenSpec.upto fnMatchSpec)

/-- 'laws.FnExactSetOk', WHERE WHAT IT READS IS OF BULK AT MOST 1048576: true; the input reads as it did. -/
def fnExactSetOkUptoRow : OpenClaim := { program := "ytaoeibfegfkdjaa", sum := "56d052081a8d1e458c58d9c2e98cf50fb3c5c16fc2300cd6ad23f65b3966fb23", func := "loop.example/quincunx/laws.FnExactSetOk", spec := "fnExactSetOk", apart := false, narrowed := true }
def FnExactSetOkUptoSaid : Prop := fnExactSetOkUptoRow.holds Try.pinned (OpenSpec.upto fnExactSetOkSpec)

/-- 'laws.FnExactFieldsOk', WHERE WHAT IT READS IS OF BULK AT MOST 1048576: true; the input reads as it did. -/
def fnExactFieldsOkUptoRow : OpenClaim := { program := "ytaoeibfegfkdjaa", sum := "56d052081a8d1e458c58d9c2e98cf50fb3c5c16fc2300cd6ad23f65b3966fb23", func := "loop.example/quincunx/laws.FnExactFieldsOk", spec := "fnExactFieldsOk", apart := false, narrowed := true }
def FnExactFieldsOkUptoSaid : Prop := fnExactFieldsOkUptoRow.holds Try.pinned (OpenSpec.upto fnExactFieldsOkSpec)

/-- 'laws.FnExactListPop', WHERE WHAT IT READS IS OF BULK AT MOST 1048576: true; the input reads as it did. -/
def fnExactListPopUptoRow : OpenClaim := { program := "ytaoeibfegfkdjaa", sum := "56d052081a8d1e458c58d9c2e98cf50fb3c5c16fc2300cd6ad23f65b3966fb23", func := "loop.example/quincunx/laws.FnExactListPop", spec := "fnExactListPop", apart := false, narrowed := true }
def FnExactListPopUptoSaid : Prop := fnExactListPopUptoRow.holds Try.pinned (OpenSpec.upto fnExactListPopSpec)

/-- 'laws.FnExactListSet', WHERE WHAT IT READS IS OF BULK AT MOST 1048576: true; the input reads as it did. -/
def fnExactListSetUptoRow : OpenClaim := { program := "ytaoeibfegfkdjaa", sum := "56d052081a8d1e458c58d9c2e98cf50fb3c5c16fc2300cd6ad23f65b3966fb23", func := "loop.example/quincunx/laws.FnExactListSet", spec := "fnExactListSet", apart := false, narrowed := true }
def FnExactListSetUptoSaid : Prop := fnExactListSetUptoRow.holds Try.pinned (OpenSpec.upto fnExactListSetSpec)

/-- 'laws.FnExactSetBoth', WHERE WHAT IT READS IS OF BULK AT MOST 1048576: true; the input reads as it did. -/
def fnExactSetBothUptoRow : OpenClaim := { program := "ytaoeibfegfkdjaa", sum := "56d052081a8d1e458c58d9c2e98cf50fb3c5c16fc2300cd6ad23f65b3966fb23", func := "loop.example/quincunx/laws.FnExactSetBoth", spec := "fnExactSetBoth", apart := false, narrowed := true }
def FnExactSetBothUptoSaid : Prop := fnExactSetBothUptoRow.holds Try.pinned (OpenSpec.upto fnExactSetBothSpec)

/-- 'laws.FnExactSetLess', WHERE WHAT IT READS IS OF BULK AT MOST 1048576: true; the input reads as it did. -/
def fnExactSetLessUptoRow : OpenClaim := { program := "ytaoeibfegfkdjaa", sum := "56d052081a8d1e458c58d9c2e98cf50fb3c5c16fc2300cd6ad23f65b3966fb23", func := "loop.example/quincunx/laws.FnExactSetLess", spec := "fnExactSetLess", apart := false, narrowed := true }
def FnExactSetLessUptoSaid : Prop := fnExactSetLessUptoRow.holds Try.pinned (OpenSpec.upto fnExactSetLessSpec)

/-- 'laws.FnExactListRange', WHERE WHAT IT READS IS OF BULK AT MOST 1048576: true; the input reads as it did. -/
def fnExactListRangeUptoRow : OpenClaim := { program := "ytaoeibfegfkdjaa", sum := "56d052081a8d1e458c58d9c2e98cf50fb3c5c16fc2300cd6ad23f65b3966fb23", func := "loop.example/quincunx/laws.FnExactListRange", spec := "fnExactListRange", apart := false, narrowed := true }
def FnExactListRangeUptoSaid : Prop := fnExactListRangeUptoRow.holds Try.pinned (OpenSpec.upto fnExactListRangeSpec)

/-- 'laws.FnExactSetDrop', WHERE WHAT IT READS IS OF BULK AT MOST 1048576: true; the input reads as it did. -/
def fnExactSetDropUptoRow : OpenClaim := { program := "ytaoeibfegfkdjaa", sum := "56d052081a8d1e458c58d9c2e98cf50fb3c5c16fc2300cd6ad23f65b3966fb23", func := "loop.example/quincunx/laws.FnExactSetDrop", spec := "fnExactSetDrop", apart := false, narrowed := true }
def FnExactSetDropUptoSaid : Prop := fnExactSetDropUptoRow.holds Try.pinned (OpenSpec.upto fnExactSetDropSpec)

/-- 'laws.FnExactListTrim', WHERE WHAT IT READS IS OF BULK AT MOST 1048576: true; the input reads as it did. -/
def fnExactListTrimUptoRow : OpenClaim := { program := "ytaoeibfegfkdjaa", sum := "56d052081a8d1e458c58d9c2e98cf50fb3c5c16fc2300cd6ad23f65b3966fb23", func := "loop.example/quincunx/laws.FnExactListTrim", spec := "fnExactListTrim", apart := false, narrowed := true }
def FnExactListTrimUptoSaid : Prop := fnExactListTrimUptoRow.holds Try.pinned (OpenSpec.upto fnExactListTrimSpec)

end Rows
end Go.Proofs.Ytaoeibfegfkdjaa
