/-
  No cell of these rows narrows 'for every input' (looked for: loops, veiled, ifaces, maps, wideKeys, modest, calm, conditions, laid).
  DERIVED. THE GIVEN ROWS OF THIS SEAT. 7 by the template 'for every input the law returns true; each argument reads behind the call as it read before'; 0 by the template 'total and deterministic' (their statements: YtnkgmcgbbldkgaaTotals.lean).
  GIVEN WITH THE SEED: the statements are not yours to turn. If you find one false, say at which input.
  Laid BY PROGRAM, IN A SANDBOX (cutbox-rows.mjs): the forced cells as the released guide's own fill.sh prints them over the translation 46d0e4b77d0dbcb2… (all of the seat's roots in one cut). By AI agents, Wed Nov 11 2026. No macro, syntax, notation, axiom, sorry.
-/
import Derived.Test.YtnkgmcgbbldkgaaChecked
import GoSem.Claim
import GoSem.ClaimJoined
import GoSem.ClaimMapViews
import Derived.JoinedTies
import Derived.KernelRfl
namespace Go.Proofs.Ytnkgmcgbbldkgaa
/- THE CELL 'sum', in the pinned program and in every row, IS THE sha256 OF THE DUMP (.gsa) THAT YtnkgmcgbbldkgaaProg.lean LOADS. Nothing in Lean hashes anything: it is a label: what it is worth is what the hold of that sum in a sandbox is worth. -/
noncomputable def Try.pinned : Pinned := { name := "ytnkgmcgbbldkgaa", sum := "46d0e4b77d0dbcb2ba897507f9d387ce22b2fd69a0978bdf6b3c2e7cb6b2379e", checked := Try.checked }
namespace Rows
def none {H : Type} : Left H := { results := [], args := [] }

/-- 'laws.FnExactEntryOk': WHATEVER THE INPUT: true; the input reads as it did. -/
def fnExactEntryOkSpec : ChangeSpec := { name := "fnExactEntryOk", fn := fun _ => fun
  | [d] => { results := [.lit (.bool true)], args := [d] }
  | _ => none }
def fnExactEntryOkRow : OpenClaim := { program := "ytnkgmcgbbldkgaa", sum := "46d0e4b77d0dbcb2ba897507f9d387ce22b2fd69a0978bdf6b3c2e7cb6b2379e", func := "loop.example/quincunx/laws.FnExactEntryOk", spec := "fnExactEntryOk", unfollowed := true, recurses := true, apart := false }
def FnExactEntryOkSaid : Prop := fnExactEntryOkRow.holds Try.pinned (OpenSpec.ofChange fnExactEntryOkSpec)

/-- ITS FALSE NEIGHBOUR: 'it returns false'. Refute it at one input. -/
def fnExactEntryOkWrong : ChangeSpec := { name := "fnExactEntryOk", fn := fun _ => fun
  | [d] => { results := [.lit (.bool false)], args := [d] }
  | _ => none }
def FnExactEntryOkWrongFalsely : Prop := fnExactEntryOkRow.holds Try.pinned (OpenSpec.ofChange fnExactEntryOkWrong)

/-- 'laws.FnEntryOk': WHATEVER THE INPUT: true; the input reads as it did. -/
def fnEntryOkSpec : ChangeSpec := { name := "fnEntryOk", fn := fun _ => fun
  | [d] => { results := [.lit (.bool true)], args := [d] }
  | _ => none }
def fnEntryOkRow : OpenClaim := { program := "ytnkgmcgbbldkgaa", sum := "46d0e4b77d0dbcb2ba897507f9d387ce22b2fd69a0978bdf6b3c2e7cb6b2379e", func := "loop.example/quincunx/laws.FnEntryOk", spec := "fnEntryOk", unfollowed := true, recurses := true, apart := false }
def FnEntryOkSaid : Prop := fnEntryOkRow.holds Try.pinned (OpenSpec.ofChange fnEntryOkSpec)

/-- ITS FALSE NEIGHBOUR: 'it returns false'. Refute it at one input. -/
def fnEntryOkWrong : ChangeSpec := { name := "fnEntryOk", fn := fun _ => fun
  | [d] => { results := [.lit (.bool false)], args := [d] }
  | _ => none }
def FnEntryOkWrongFalsely : Prop := fnEntryOkRow.holds Try.pinned (OpenSpec.ofChange fnEntryOkWrong)

/-- 'laws.FnExactBaseOk': WHATEVER THE INPUT: true; the input reads as it did. -/
def fnExactBaseOkSpec : ChangeSpec := { name := "fnExactBaseOk", fn := fun _ => fun
  | [d] => { results := [.lit (.bool true)], args := [d] }
  | _ => none }
def fnExactBaseOkRow : OpenClaim := { program := "ytnkgmcgbbldkgaa", sum := "46d0e4b77d0dbcb2ba897507f9d387ce22b2fd69a0978bdf6b3c2e7cb6b2379e", func := "loop.example/quincunx/laws.FnExactBaseOk", spec := "fnExactBaseOk", unfollowed := true, recurses := true, apart := false }
def FnExactBaseOkSaid : Prop := fnExactBaseOkRow.holds Try.pinned (OpenSpec.ofChange fnExactBaseOkSpec)

/-- ITS FALSE NEIGHBOUR: 'it returns false'. Refute it at one input. -/
def fnExactBaseOkWrong : ChangeSpec := { name := "fnExactBaseOk", fn := fun _ => fun
  | [d] => { results := [.lit (.bool false)], args := [d] }
  | _ => none }
def FnExactBaseOkWrongFalsely : Prop := fnExactBaseOkRow.holds Try.pinned (OpenSpec.ofChange fnExactBaseOkWrong)

/-- 'laws.FnExactBaseKeys': WHATEVER THE INPUT: true; the input reads as it did. -/
def fnExactBaseKeysSpec : ChangeSpec := { name := "fnExactBaseKeys", fn := fun _ => fun
  | [d1, d2] => { results := [.lit (.bool true)], args := [d1, d2] }
  | _ => none }
def fnExactBaseKeysRow : OpenClaim := { program := "ytnkgmcgbbldkgaa", sum := "46d0e4b77d0dbcb2ba897507f9d387ce22b2fd69a0978bdf6b3c2e7cb6b2379e", func := "loop.example/quincunx/laws.FnExactBaseKeys", spec := "fnExactBaseKeys", unfollowed := true, recurses := true, apart := false }
def FnExactBaseKeysSaid : Prop := fnExactBaseKeysRow.holds Try.pinned (OpenSpec.ofChange fnExactBaseKeysSpec)

/-- ITS FALSE NEIGHBOUR: 'it returns false'. Refute it at one input. -/
def fnExactBaseKeysWrong : ChangeSpec := { name := "fnExactBaseKeys", fn := fun _ => fun
  | [d1, d2] => { results := [.lit (.bool false)], args := [d1, d2] }
  | _ => none }
def FnExactBaseKeysWrongFalsely : Prop := fnExactBaseKeysRow.holds Try.pinned (OpenSpec.ofChange fnExactBaseKeysWrong)

/-- 'laws.FnExactBaseGet': WHATEVER THE INPUT: true; the input reads as it did. -/
def fnExactBaseGetSpec : ChangeSpec := { name := "fnExactBaseGet", fn := fun _ => fun
  | [d1, d2] => { results := [.lit (.bool true)], args := [d1, d2] }
  | _ => none }
def fnExactBaseGetRow : OpenClaim := { program := "ytnkgmcgbbldkgaa", sum := "46d0e4b77d0dbcb2ba897507f9d387ce22b2fd69a0978bdf6b3c2e7cb6b2379e", func := "loop.example/quincunx/laws.FnExactBaseGet", spec := "fnExactBaseGet", unfollowed := true, recurses := true, apart := false }
def FnExactBaseGetSaid : Prop := fnExactBaseGetRow.holds Try.pinned (OpenSpec.ofChange fnExactBaseGetSpec)

/-- ITS FALSE NEIGHBOUR: 'it returns false'. Refute it at one input. -/
def fnExactBaseGetWrong : ChangeSpec := { name := "fnExactBaseGet", fn := fun _ => fun
  | [d1, d2] => { results := [.lit (.bool false)], args := [d1, d2] }
  | _ => none }
def FnExactBaseGetWrongFalsely : Prop := fnExactBaseGetRow.holds Try.pinned (OpenSpec.ofChange fnExactBaseGetWrong)

/-- 'laws.FnExactBaseTick': WHATEVER THE INPUT: true; the input reads as it did. -/
def fnExactBaseTickSpec : ChangeSpec := { name := "fnExactBaseTick", fn := fun _ => fun
  | [d1, d2] => { results := [.lit (.bool true)], args := [d1, d2] }
  | _ => none }
def fnExactBaseTickRow : OpenClaim := { program := "ytnkgmcgbbldkgaa", sum := "46d0e4b77d0dbcb2ba897507f9d387ce22b2fd69a0978bdf6b3c2e7cb6b2379e", func := "loop.example/quincunx/laws.FnExactBaseTick", spec := "fnExactBaseTick", unfollowed := true, recurses := true, apart := false }
def FnExactBaseTickSaid : Prop := fnExactBaseTickRow.holds Try.pinned (OpenSpec.ofChange fnExactBaseTickSpec)

/-- ITS FALSE NEIGHBOUR: 'it returns false'. Refute it at one input. -/
def fnExactBaseTickWrong : ChangeSpec := { name := "fnExactBaseTick", fn := fun _ => fun
  | [d1, d2] => { results := [.lit (.bool false)], args := [d1, d2] }
  | _ => none }
def FnExactBaseTickWrongFalsely : Prop := fnExactBaseTickRow.holds Try.pinned (OpenSpec.ofChange fnExactBaseTickWrong)

/-- 'laws.FnExactBaseDrop': WHATEVER THE INPUT: true; the input reads as it did. -/
def fnExactBaseDropSpec : ChangeSpec := { name := "fnExactBaseDrop", fn := fun _ => fun
  | [d1, d2] => { results := [.lit (.bool true)], args := [d1, d2] }
  | _ => none }
def fnExactBaseDropRow : OpenClaim := { program := "ytnkgmcgbbldkgaa", sum := "46d0e4b77d0dbcb2ba897507f9d387ce22b2fd69a0978bdf6b3c2e7cb6b2379e", func := "loop.example/quincunx/laws.FnExactBaseDrop", spec := "fnExactBaseDrop", unfollowed := true, recurses := true, apart := false }
def FnExactBaseDropSaid : Prop := fnExactBaseDropRow.holds Try.pinned (OpenSpec.ofChange fnExactBaseDropSpec)

/-- ITS FALSE NEIGHBOUR: 'it returns false'. Refute it at one input. -/
def fnExactBaseDropWrong : ChangeSpec := { name := "fnExactBaseDrop", fn := fun _ => fun
  | [d1, d2] => { results := [.lit (.bool false)], args := [d1, d2] }
  | _ => none }
def FnExactBaseDropWrongFalsely : Prop := fnExactBaseDropRow.holds Try.pinned (OpenSpec.ofChange fnExactBaseDropWrong)

/- THE SECOND FORM. 'bulk': how many values and letters a reading holds, each counted each time it is reached (what is shared counts as often as it is met; a slice's spare places count too). A statement '..UptoSaid' is the law's where the arguments, and the package variables that the reading takes, are together of bulk at most 1048576: NARROWER than '..Said'. Prove '..Said' where nothing that the law and all that it calls make is longer than what came in: it says more and counts as full. Else prove '..UptoSaid'. A law counts once. -/
mutual
def uptoBulk {H : Type} : DataW H → Nat
  | .lit (.string bytes) => bytes.length + 1
  | .lit _ => 1
  | .nil => 1
  | .ptr d => uptoBulk d + 1
  | .slice elems spare => uptoBulkAll elems + uptoBulkAll spare + 1
  | .agg parts => uptoBulkAll parts + 1
  | .iface _ d => uptoBulk d + 1
  | .map entries => uptoBulkEntries entries + 1
  | .held _ => 1
def uptoBulkAll {H : Type} : List (DataW H) → Nat
  | [] => 0
  | d :: r => uptoBulk d + uptoBulkAll r
def uptoBulkEntries {H : Type} : List (Lit × DataW H) → Nat
  | [] => 0
  | x :: r => uptoBulkEntry x + uptoBulkEntries r
def uptoBulkEntry {H : Type} : Lit × DataW H → Nat
  | (.string bytes, d) => bytes.length + uptoBulk d + 1
  | (_, d) => uptoBulk d + 1
 end
def uptoSmall : (H : Type) → List (DataW H) → Bool := fun _ ds => decide (uptoBulkAll ds ≤ 1048576)
def OpenSpec.upto (s : _root_.Go.ChangeSpec) : _root_.Go.OpenSpec := { _root_.Go.OpenSpec.ofChange s with cond := some uptoSmall }

/-- 'laws.FnExactEntryOk', WHERE WHAT IT READS IS OF BULK AT MOST 1048576: true; the input reads as it did. -/
def fnExactEntryOkUptoRow : OpenClaim := { program := "ytnkgmcgbbldkgaa", sum := "46d0e4b77d0dbcb2ba897507f9d387ce22b2fd69a0978bdf6b3c2e7cb6b2379e", func := "loop.example/quincunx/laws.FnExactEntryOk", spec := "fnExactEntryOk", unfollowed := true, recurses := true, apart := false, narrowed := true }
def FnExactEntryOkUptoSaid : Prop := fnExactEntryOkUptoRow.holds Try.pinned (OpenSpec.upto fnExactEntryOkSpec)

/-- 'laws.FnEntryOk', WHERE WHAT IT READS IS OF BULK AT MOST 1048576: true; the input reads as it did. -/
def fnEntryOkUptoRow : OpenClaim := { program := "ytnkgmcgbbldkgaa", sum := "46d0e4b77d0dbcb2ba897507f9d387ce22b2fd69a0978bdf6b3c2e7cb6b2379e", func := "loop.example/quincunx/laws.FnEntryOk", spec := "fnEntryOk", unfollowed := true, recurses := true, apart := false, narrowed := true }
def FnEntryOkUptoSaid : Prop := fnEntryOkUptoRow.holds Try.pinned (OpenSpec.upto fnEntryOkSpec)

/-- 'laws.FnExactBaseOk', WHERE WHAT IT READS IS OF BULK AT MOST 1048576: true; the input reads as it did. -/
def fnExactBaseOkUptoRow : OpenClaim := { program := "ytnkgmcgbbldkgaa", sum := "46d0e4b77d0dbcb2ba897507f9d387ce22b2fd69a0978bdf6b3c2e7cb6b2379e", func := "loop.example/quincunx/laws.FnExactBaseOk", spec := "fnExactBaseOk", unfollowed := true, recurses := true, apart := false, narrowed := true }
def FnExactBaseOkUptoSaid : Prop := fnExactBaseOkUptoRow.holds Try.pinned (OpenSpec.upto fnExactBaseOkSpec)

/-- 'laws.FnExactBaseKeys', WHERE WHAT IT READS IS OF BULK AT MOST 1048576: true; the input reads as it did. -/
def fnExactBaseKeysUptoRow : OpenClaim := { program := "ytnkgmcgbbldkgaa", sum := "46d0e4b77d0dbcb2ba897507f9d387ce22b2fd69a0978bdf6b3c2e7cb6b2379e", func := "loop.example/quincunx/laws.FnExactBaseKeys", spec := "fnExactBaseKeys", unfollowed := true, recurses := true, apart := false, narrowed := true }
def FnExactBaseKeysUptoSaid : Prop := fnExactBaseKeysUptoRow.holds Try.pinned (OpenSpec.upto fnExactBaseKeysSpec)

/-- 'laws.FnExactBaseGet', WHERE WHAT IT READS IS OF BULK AT MOST 1048576: true; the input reads as it did. -/
def fnExactBaseGetUptoRow : OpenClaim := { program := "ytnkgmcgbbldkgaa", sum := "46d0e4b77d0dbcb2ba897507f9d387ce22b2fd69a0978bdf6b3c2e7cb6b2379e", func := "loop.example/quincunx/laws.FnExactBaseGet", spec := "fnExactBaseGet", unfollowed := true, recurses := true, apart := false, narrowed := true }
def FnExactBaseGetUptoSaid : Prop := fnExactBaseGetUptoRow.holds Try.pinned (OpenSpec.upto fnExactBaseGetSpec)

/-- 'laws.FnExactBaseTick', WHERE WHAT IT READS IS OF BULK AT MOST 1048576: true; the input reads as it did. -/
def fnExactBaseTickUptoRow : OpenClaim := { program := "ytnkgmcgbbldkgaa", sum := "46d0e4b77d0dbcb2ba897507f9d387ce22b2fd69a0978bdf6b3c2e7cb6b2379e", func := "loop.example/quincunx/laws.FnExactBaseTick", spec := "fnExactBaseTick", unfollowed := true, recurses := true, apart := false, narrowed := true }
def FnExactBaseTickUptoSaid : Prop := fnExactBaseTickUptoRow.holds Try.pinned (OpenSpec.upto fnExactBaseTickSpec)

/-- 'laws.FnExactBaseDrop', WHERE WHAT IT READS IS OF BULK AT MOST 1048576: true; the input reads as it did. -/
def fnExactBaseDropUptoRow : OpenClaim := { program := "ytnkgmcgbbldkgaa", sum := "46d0e4b77d0dbcb2ba897507f9d387ce22b2fd69a0978bdf6b3c2e7cb6b2379e", func := "loop.example/quincunx/laws.FnExactBaseDrop", spec := "fnExactBaseDrop", unfollowed := true, recurses := true, apart := false, narrowed := true }
def FnExactBaseDropUptoSaid : Prop := fnExactBaseDropUptoRow.holds Try.pinned (OpenSpec.upto fnExactBaseDropSpec)

end Rows
end Go.Proofs.Ytnkgmcgbbldkgaa
