/-
  No cell of these rows narrows 'for every input' (looked for: loops, veiled, ifaces, maps, wideKeys, modest, calm, conditions, laid).
  DERIVED. THE GIVEN ROWS OF THIS SEAT. 11 by the template 'for every input the law returns true; each argument reads behind the call as it read before'; 0 by the template 'total and deterministic' (their statements: YtcdiokflmambiaaTotals.lean).
  GIVEN WITH THE SEED: the statements are not yours to turn. If you find one false, say at which input.
  Laid BY PROGRAM, IN A SANDBOX (cutbox-rows.mjs): the forced cells as the released guide's own fill.sh prints them over the translation 0cd49d91998db26d… (all of the seat's roots in one cut). By AI agents, Wed Nov 11 2026. No macro, syntax, notation, axiom, sorry.
-/
import Derived.Test.YtcdiokflmambiaaChecked
import GoSem.Claim
import GoSem.ClaimJoined
import GoSem.ClaimMapViews
import Derived.JoinedTies
import Derived.KernelRfl
namespace Go.Proofs.Ytcdiokflmambiaa
/- THE CELL 'sum', in the pinned program and in every row, IS THE sha256 OF THE DUMP (.gsa) THAT YtcdiokflmambiaaProg.lean LOADS. Nothing in Lean hashes anything: it is a label: what it is worth is what the hold of that sum in a sandbox is worth. -/
noncomputable def Try.pinned : Pinned := { name := "ytcdiokflmambiaa", sum := "0cd49d91998db26d7c107ddab3ca93ebc11d059ecf0387aabd4b779b1adaf5e2", checked := Try.checked }
namespace Rows
def none {H : Type} : Left H := { results := [], args := [] }

/-- 'laws.FnExactListDrop': WHATEVER THE INPUT: true; the input reads as it did. -/
def fnExactListDropSpec : ChangeSpec := { name := "fnExactListDrop", fn := fun _ => fun
  | [d1, d2, d3] => { results := [.lit (.bool true)], args := [d1, d2, d3] }
  | _ => none }
def fnExactListDropRow : OpenClaim := { program := "ytcdiokflmambiaa", sum := "0cd49d91998db26d7c107ddab3ca93ebc11d059ecf0387aabd4b779b1adaf5e2", func := "loop.example/quincunx/laws.FnExactListDrop", spec := "fnExactListDrop", apart := false }
def FnExactListDropSaid : Prop := fnExactListDropRow.holds Try.pinned (OpenSpec.ofChange fnExactListDropSpec)

/-- ITS FALSE NEIGHBOUR: 'it returns false'. Refute it at one input. -/
def fnExactListDropWrong : ChangeSpec := { name := "fnExactListDrop", fn := fun _ => fun
  | [d1, d2, d3] => { results := [.lit (.bool false)], args := [d1, d2, d3] }
  | _ => none }
def FnExactListDropWrongFalsely : Prop := fnExactListDropRow.holds Try.pinned (OpenSpec.ofChange fnExactListDropWrong)

/-- 'laws.FnListSet': WHATEVER THE INPUT: true; the input reads as it did. -/
def fnListSetSpec : ChangeSpec := { name := "fnListSet", fn := fun _ => fun
  | [d] => { results := [.lit (.bool true)], args := [d] }
  | _ => none }
def fnListSetRow : OpenClaim := { program := "ytcdiokflmambiaa", sum := "0cd49d91998db26d7c107ddab3ca93ebc11d059ecf0387aabd4b779b1adaf5e2", func := "loop.example/quincunx/laws.FnListSet", spec := "fnListSet", recurses := true, apart := false }
def FnListSetSaid : Prop := fnListSetRow.holds Try.pinned (OpenSpec.ofChange fnListSetSpec)

/-- ITS FALSE NEIGHBOUR: 'it returns false'. Refute it at one input. -/
def fnListSetWrong : ChangeSpec := { name := "fnListSet", fn := fun _ => fun
  | [d] => { results := [.lit (.bool false)], args := [d] }
  | _ => none }
def FnListSetWrongFalsely : Prop := fnListSetRow.holds Try.pinned (OpenSpec.ofChange fnListSetWrong)

/-- 'laws.FnExactFieldsDrop': WHATEVER THE INPUT: true; the input reads as it did. -/
def fnExactFieldsDropSpec : ChangeSpec := { name := "fnExactFieldsDrop", fn := fun _ => fun
  | [d1, d2] => { results := [.lit (.bool true)], args := [d1, d2] }
  | _ => none }
def fnExactFieldsDropRow : OpenClaim := { program := "ytcdiokflmambiaa", sum := "0cd49d91998db26d7c107ddab3ca93ebc11d059ecf0387aabd4b779b1adaf5e2", func := "loop.example/quincunx/laws.FnExactFieldsDrop", spec := "fnExactFieldsDrop", unfollowed := true, recurses := true, apart := false }
def FnExactFieldsDropSaid : Prop := fnExactFieldsDropRow.holds Try.pinned (OpenSpec.ofChange fnExactFieldsDropSpec)

/-- ITS FALSE NEIGHBOUR: 'it returns false'. Refute it at one input. -/
def fnExactFieldsDropWrong : ChangeSpec := { name := "fnExactFieldsDrop", fn := fun _ => fun
  | [d1, d2] => { results := [.lit (.bool false)], args := [d1, d2] }
  | _ => none }
def FnExactFieldsDropWrongFalsely : Prop := fnExactFieldsDropRow.holds Try.pinned (OpenSpec.ofChange fnExactFieldsDropWrong)

/-- 'laws.FnExactFieldsGet': WHATEVER THE INPUT: true; the input reads as it did. -/
def fnExactFieldsGetSpec : ChangeSpec := { name := "fnExactFieldsGet", fn := fun _ => fun
  | [d1, d2] => { results := [.lit (.bool true)], args := [d1, d2] }
  | _ => none }
def fnExactFieldsGetRow : OpenClaim := { program := "ytcdiokflmambiaa", sum := "0cd49d91998db26d7c107ddab3ca93ebc11d059ecf0387aabd4b779b1adaf5e2", func := "loop.example/quincunx/laws.FnExactFieldsGet", spec := "fnExactFieldsGet", unfollowed := true, recurses := true, apart := false }
def FnExactFieldsGetSaid : Prop := fnExactFieldsGetRow.holds Try.pinned (OpenSpec.ofChange fnExactFieldsGetSpec)

/-- ITS FALSE NEIGHBOUR: 'it returns false'. Refute it at one input. -/
def fnExactFieldsGetWrong : ChangeSpec := { name := "fnExactFieldsGet", fn := fun _ => fun
  | [d1, d2] => { results := [.lit (.bool false)], args := [d1, d2] }
  | _ => none }
def FnExactFieldsGetWrongFalsely : Prop := fnExactFieldsGetRow.holds Try.pinned (OpenSpec.ofChange fnExactFieldsGetWrong)

/-- 'laws.FnExactOrderGet': WHATEVER THE INPUT: true; the input reads as it did. -/
def fnExactOrderGetSpec : ChangeSpec := { name := "fnExactOrderGet", fn := fun _ => fun
  | [d] => { results := [.lit (.bool true)], args := [d] }
  | _ => none }
def fnExactOrderGetRow : OpenClaim := { program := "ytcdiokflmambiaa", sum := "0cd49d91998db26d7c107ddab3ca93ebc11d059ecf0387aabd4b779b1adaf5e2", func := "loop.example/quincunx/laws.FnExactOrderGet", spec := "fnExactOrderGet", apart := false }
def FnExactOrderGetSaid : Prop := fnExactOrderGetRow.holds Try.pinned (OpenSpec.ofChange fnExactOrderGetSpec)

/-- ITS FALSE NEIGHBOUR: 'it returns false'. Refute it at one input. -/
def fnExactOrderGetWrong : ChangeSpec := { name := "fnExactOrderGet", fn := fun _ => fun
  | [d] => { results := [.lit (.bool false)], args := [d] }
  | _ => none }
def FnExactOrderGetWrongFalsely : Prop := fnExactOrderGetRow.holds Try.pinned (OpenSpec.ofChange fnExactOrderGetWrong)

/-- 'laws.FnListRange': WHATEVER THE INPUT: true; the input reads as it did. -/
def fnListRangeSpec : ChangeSpec := { name := "fnListRange", fn := fun _ => fun
  | [d] => { results := [.lit (.bool true)], args := [d] }
  | _ => none }
def fnListRangeRow : OpenClaim := { program := "ytcdiokflmambiaa", sum := "0cd49d91998db26d7c107ddab3ca93ebc11d059ecf0387aabd4b779b1adaf5e2", func := "loop.example/quincunx/laws.FnListRange", spec := "fnListRange", recurses := true, apart := false }
def FnListRangeSaid : Prop := fnListRangeRow.holds Try.pinned (OpenSpec.ofChange fnListRangeSpec)

/-- ITS FALSE NEIGHBOUR: 'it returns false'. Refute it at one input. -/
def fnListRangeWrong : ChangeSpec := { name := "fnListRange", fn := fun _ => fun
  | [d] => { results := [.lit (.bool false)], args := [d] }
  | _ => none }
def FnListRangeWrongFalsely : Prop := fnListRangeRow.holds Try.pinned (OpenSpec.ofChange fnListRangeWrong)

/-- 'laws.FnListDrop': WHATEVER THE INPUT: true; the input reads as it did. -/
def fnListDropSpec : ChangeSpec := { name := "fnListDrop", fn := fun _ => fun
  | [d] => { results := [.lit (.bool true)], args := [d] }
  | _ => none }
def fnListDropRow : OpenClaim := { program := "ytcdiokflmambiaa", sum := "0cd49d91998db26d7c107ddab3ca93ebc11d059ecf0387aabd4b779b1adaf5e2", func := "loop.example/quincunx/laws.FnListDrop", spec := "fnListDrop", recurses := true, apart := false }
def FnListDropSaid : Prop := fnListDropRow.holds Try.pinned (OpenSpec.ofChange fnListDropSpec)

/-- ITS FALSE NEIGHBOUR: 'it returns false'. Refute it at one input. -/
def fnListDropWrong : ChangeSpec := { name := "fnListDrop", fn := fun _ => fun
  | [d] => { results := [.lit (.bool false)], args := [d] }
  | _ => none }
def FnListDropWrongFalsely : Prop := fnListDropRow.holds Try.pinned (OpenSpec.ofChange fnListDropWrong)

/-- 'laws.FnSetDrop': WHATEVER THE INPUT: true; the input reads as it did. -/
def fnSetDropSpec : ChangeSpec := { name := "fnSetDrop", fn := fun _ => fun
  | [d] => { results := [.lit (.bool true)], args := [d] }
  | _ => none }
def fnSetDropRow : OpenClaim := { program := "ytcdiokflmambiaa", sum := "0cd49d91998db26d7c107ddab3ca93ebc11d059ecf0387aabd4b779b1adaf5e2", func := "loop.example/quincunx/laws.FnSetDrop", spec := "fnSetDrop", recurses := true, apart := false }
def FnSetDropSaid : Prop := fnSetDropRow.holds Try.pinned (OpenSpec.ofChange fnSetDropSpec)

/-- ITS FALSE NEIGHBOUR: 'it returns false'. Refute it at one input. -/
def fnSetDropWrong : ChangeSpec := { name := "fnSetDrop", fn := fun _ => fun
  | [d] => { results := [.lit (.bool false)], args := [d] }
  | _ => none }
def FnSetDropWrongFalsely : Prop := fnSetDropRow.holds Try.pinned (OpenSpec.ofChange fnSetDropWrong)

/-- 'laws.FnExactListPush': WHATEVER THE INPUT: true; the input reads as it did. -/
def fnExactListPushSpec : ChangeSpec := { name := "fnExactListPush", fn := fun _ => fun
  | [d1, d2, d3] => { results := [.lit (.bool true)], args := [d1, d2, d3] }
  | _ => none }
def fnExactListPushRow : OpenClaim := { program := "ytcdiokflmambiaa", sum := "0cd49d91998db26d7c107ddab3ca93ebc11d059ecf0387aabd4b779b1adaf5e2", func := "loop.example/quincunx/laws.FnExactListPush", spec := "fnExactListPush", inPlace := ["slices.overlaps[string]"], apart := false }
def FnExactListPushSaid : Prop := fnExactListPushRow.holds Try.pinned (OpenSpec.ofChange fnExactListPushSpec)

/-- ITS FALSE NEIGHBOUR: 'it returns false'. Refute it at one input. -/
def fnExactListPushWrong : ChangeSpec := { name := "fnExactListPush", fn := fun _ => fun
  | [d1, d2, d3] => { results := [.lit (.bool false)], args := [d1, d2, d3] }
  | _ => none }
def FnExactListPushWrongFalsely : Prop := fnExactListPushRow.holds Try.pinned (OpenSpec.ofChange fnExactListPushWrong)

/-- 'laws.FnListPop': WHATEVER THE INPUT: true; the input reads as it did. -/
def fnListPopSpec : ChangeSpec := { name := "fnListPop", fn := fun _ => fun
  | [d] => { results := [.lit (.bool true)], args := [d] }
  | _ => none }
def fnListPopRow : OpenClaim := { program := "ytcdiokflmambiaa", sum := "0cd49d91998db26d7c107ddab3ca93ebc11d059ecf0387aabd4b779b1adaf5e2", func := "loop.example/quincunx/laws.FnListPop", spec := "fnListPop", inPlace := ["slices.overlaps[string]"], recurses := true, apart := false }
def FnListPopSaid : Prop := fnListPopRow.holds Try.pinned (OpenSpec.ofChange fnListPopSpec)

/-- ITS FALSE NEIGHBOUR: 'it returns false'. Refute it at one input. -/
def fnListPopWrong : ChangeSpec := { name := "fnListPop", fn := fun _ => fun
  | [d] => { results := [.lit (.bool false)], args := [d] }
  | _ => none }
def FnListPopWrongFalsely : Prop := fnListPopRow.holds Try.pinned (OpenSpec.ofChange fnListPopWrong)

/-- 'laws.FnListPush': WHATEVER THE INPUT: true; the input reads as it did. -/
def fnListPushSpec : ChangeSpec := { name := "fnListPush", fn := fun _ => fun
  | [d] => { results := [.lit (.bool true)], args := [d] }
  | _ => none }
def fnListPushRow : OpenClaim := { program := "ytcdiokflmambiaa", sum := "0cd49d91998db26d7c107ddab3ca93ebc11d059ecf0387aabd4b779b1adaf5e2", func := "loop.example/quincunx/laws.FnListPush", spec := "fnListPush", inPlace := ["slices.overlaps[string]"], recurses := true, apart := false }
def FnListPushSaid : Prop := fnListPushRow.holds Try.pinned (OpenSpec.ofChange fnListPushSpec)

/-- ITS FALSE NEIGHBOUR: 'it returns false'. Refute it at one input. -/
def fnListPushWrong : ChangeSpec := { name := "fnListPush", fn := fun _ => fun
  | [d] => { results := [.lit (.bool false)], args := [d] }
  | _ => none }
def FnListPushWrongFalsely : Prop := fnListPushRow.holds Try.pinned (OpenSpec.ofChange fnListPushWrong)

/- THE SECOND FORM. 'bulk': how many values and letters a reading holds, each counted each time it is reached (what is shared counts as often as it is met; a slice's spare places count too). A statement '..UptoSaid' is the law's where the arguments, and the package variables that the reading takes, are together of bulk at most 1048576: NARROWER than '..Said'. Prove '..Said' where nothing that the law and all that it calls make is longer than what came in: it says more and counts as full. Else prove '..UptoSaid'. A law counts once. -/
mutual
def uptoBulk {H : Type} : DataW H → Nat
  | .lit (.string bytes) => bytes.length + 1
  | .lit _ => 1
  | .nil => 1
  | .ptr d => uptoBulk d + 1
  | .slice elems spare => uptoBulkAll elems + uptoBulkAll spare + 1
  | .agg parts => uptoBulkAll parts + 1
  | .iface _ d => uptoBulk d + 1
  | .map entries => uptoBulkEntries entries + 1
  | .held _ => 1
def uptoBulkAll {H : Type} : List (DataW H) → Nat
  | [] => 0
  | d :: r => uptoBulk d + uptoBulkAll r
def uptoBulkEntries {H : Type} : List (Lit × DataW H) → Nat
  | [] => 0
  | x :: r => uptoBulkEntry x + uptoBulkEntries r
def uptoBulkEntry {H : Type} : Lit × DataW H → Nat
  | (.string bytes, d) => bytes.length + uptoBulk d + 1
  | (_, d) => uptoBulk d + 1
 end
def uptoSmall : (H : Type) → List (DataW H) → Bool := fun _ ds => decide (uptoBulkAll ds ≤ 1048576)
def OpenSpec.upto (s : _root_.Go.ChangeSpec) : _root_.Go.OpenSpec := { _root_.Go.OpenSpec.ofChange s with cond := some uptoSmall }

/-- 'laws.FnExactListDrop', WHERE WHAT IT READS IS OF BULK AT MOST 1048576: true; the input reads as it did. -/
def fnExactListDropUptoRow : OpenClaim := { program := "ytcdiokflmambiaa", sum := "0cd49d91998db26d7c107ddab3ca93ebc11d059ecf0387aabd4b779b1adaf5e2", func := "loop.example/quincunx/laws.FnExactListDrop", spec := "fnExactListDrop", apart := false, narrowed := true }
def FnExactListDropUptoSaid : Prop := fnExactListDropUptoRow.holds Try.pinned (OpenSpec.upto fnExactListDropSpec)

/-- 'laws.FnListSet', WHERE WHAT IT READS IS OF BULK AT MOST 1048576: true; the input reads as it did. -/
def fnListSetUptoRow : OpenClaim := { program := "ytcdiokflmambiaa", sum := "0cd49d91998db26d7c107ddab3ca93ebc11d059ecf0387aabd4b779b1adaf5e2", func := "loop.example/quincunx/laws.FnListSet", spec := "fnListSet", recurses := true, apart := false, narrowed := true }
def FnListSetUptoSaid : Prop := fnListSetUptoRow.holds Try.pinned (OpenSpec.upto fnListSetSpec)

/-- 'laws.FnExactFieldsDrop', WHERE WHAT IT READS IS OF BULK AT MOST 1048576: true; the input reads as it did. -/
def fnExactFieldsDropUptoRow : OpenClaim := { program := "ytcdiokflmambiaa", sum := "0cd49d91998db26d7c107ddab3ca93ebc11d059ecf0387aabd4b779b1adaf5e2", func := "loop.example/quincunx/laws.FnExactFieldsDrop", spec := "fnExactFieldsDrop", unfollowed := true, recurses := true, apart := false, narrowed := true }
def FnExactFieldsDropUptoSaid : Prop := fnExactFieldsDropUptoRow.holds Try.pinned (OpenSpec.upto fnExactFieldsDropSpec)

/-- 'laws.FnExactFieldsGet', WHERE WHAT IT READS IS OF BULK AT MOST 1048576: true; the input reads as it did. -/
def fnExactFieldsGetUptoRow : OpenClaim := { program := "ytcdiokflmambiaa", sum := "0cd49d91998db26d7c107ddab3ca93ebc11d059ecf0387aabd4b779b1adaf5e2", func := "loop.example/quincunx/laws.FnExactFieldsGet", spec := "fnExactFieldsGet", unfollowed := true, recurses := true, apart := false, narrowed := true }
def FnExactFieldsGetUptoSaid : Prop := fnExactFieldsGetUptoRow.holds Try.pinned (OpenSpec.upto fnExactFieldsGetSpec)

/-- 'laws.FnExactOrderGet', WHERE WHAT IT READS IS OF BULK AT MOST 1048576: true; the input reads as it did. -/
def fnExactOrderGetUptoRow : OpenClaim := { program := "ytcdiokflmambiaa", sum := "0cd49d91998db26d7c107ddab3ca93ebc11d059ecf0387aabd4b779b1adaf5e2", func := "loop.example/quincunx/laws.FnExactOrderGet", spec := "fnExactOrderGet", apart := false, narrowed := true }
def FnExactOrderGetUptoSaid : Prop := fnExactOrderGetUptoRow.holds Try.pinned (OpenSpec.upto fnExactOrderGetSpec)

/-- 'laws.FnListRange', WHERE WHAT IT READS IS OF BULK AT MOST 1048576: true; the input reads as it did. -/
def fnListRangeUptoRow : OpenClaim := { program := "ytcdiokflmambiaa", sum := "0cd49d91998db26d7c107ddab3ca93ebc11d059ecf0387aabd4b779b1adaf5e2", func := "loop.example/quincunx/laws.FnListRange", spec := "fnListRange", recurses := true, apart := false, narrowed := true }
def FnListRangeUptoSaid : Prop := fnListRangeUptoRow.holds Try.pinned (OpenSpec.upto fnListRangeSpec)

/-- 'laws.FnListDrop', WHERE WHAT IT READS IS OF BULK AT MOST 1048576: true; the input reads as it did. -/
def fnListDropUptoRow : OpenClaim := { program := "ytcdiokflmambiaa", sum := "0cd49d91998db26d7c107ddab3ca93ebc11d059ecf0387aabd4b779b1adaf5e2", func := "loop.example/quincunx/laws.FnListDrop", spec := "fnListDrop", recurses := true, apart := false, narrowed := true }
def FnListDropUptoSaid : Prop := fnListDropUptoRow.holds Try.pinned (OpenSpec.upto fnListDropSpec)

/-- 'laws.FnSetDrop', WHERE WHAT IT READS IS OF BULK AT MOST 1048576: true; the input reads as it did. -/
def fnSetDropUptoRow : OpenClaim := { program := "ytcdiokflmambiaa", sum := "0cd49d91998db26d7c107ddab3ca93ebc11d059ecf0387aabd4b779b1adaf5e2", func := "loop.example/quincunx/laws.FnSetDrop", spec := "fnSetDrop", recurses := true, apart := false, narrowed := true }
def FnSetDropUptoSaid : Prop := fnSetDropUptoRow.holds Try.pinned (OpenSpec.upto fnSetDropSpec)

/-- 'laws.FnExactListPush', WHERE WHAT IT READS IS OF BULK AT MOST 1048576: true; the input reads as it did. -/
def fnExactListPushUptoRow : OpenClaim := { program := "ytcdiokflmambiaa", sum := "0cd49d91998db26d7c107ddab3ca93ebc11d059ecf0387aabd4b779b1adaf5e2", func := "loop.example/quincunx/laws.FnExactListPush", spec := "fnExactListPush", inPlace := ["slices.overlaps[string]"], apart := false, narrowed := true }
def FnExactListPushUptoSaid : Prop := fnExactListPushUptoRow.holds Try.pinned (OpenSpec.upto fnExactListPushSpec)

/-- 'laws.FnListPop', WHERE WHAT IT READS IS OF BULK AT MOST 1048576: true; the input reads as it did. -/
def fnListPopUptoRow : OpenClaim := { program := "ytcdiokflmambiaa", sum := "0cd49d91998db26d7c107ddab3ca93ebc11d059ecf0387aabd4b779b1adaf5e2", func := "loop.example/quincunx/laws.FnListPop", spec := "fnListPop", inPlace := ["slices.overlaps[string]"], recurses := true, apart := false, narrowed := true }
def FnListPopUptoSaid : Prop := fnListPopUptoRow.holds Try.pinned (OpenSpec.upto fnListPopSpec)

/-- 'laws.FnListPush', WHERE WHAT IT READS IS OF BULK AT MOST 1048576: true; the input reads as it did. -/
def fnListPushUptoRow : OpenClaim := { program := "ytcdiokflmambiaa", sum := "0cd49d91998db26d7c107ddab3ca93ebc11d059ecf0387aabd4b779b1adaf5e2", func := "loop.example/quincunx/laws.FnListPush", spec := "fnListPush", inPlace := ["slices.overlaps[string]"], recurses := true, apart := false, narrowed := true }
def FnListPushUptoSaid : Prop := fnListPushUptoRow.holds Try.pinned (OpenSpec.upto fnListPushSpec)

end Rows
end Go.Proofs.Ytcdiokflmambiaa
