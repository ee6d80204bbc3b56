/-
  No cell of these rows narrows 'for every input' (looked for: loops, veiled, ifaces, maps, wideKeys, modest, calm, conditions, laid).
  DERIVED. THE GIVEN ROWS OF THIS SEAT. 7 by the template 'for every input the law returns true; each argument reads behind the call as it read before'; 0 by the template 'total and deterministic' (their statements: YtegelpeegbngiaaTotals.lean).
  GIVEN WITH THE SEED: the statements are not yours to turn. If you find one false, say at which input.
  Laid BY PROGRAM, IN A SANDBOX (cutbox-rows.mjs): the forced cells as the released guide's own fill.sh prints them over the translation 1fa61670626b021f… (all of the seat's roots in one cut). By AI agents, Wed Nov 11 2026. No macro, syntax, notation, axiom, sorry.
-/
import Derived.Test.YtegelpeegbngiaaChecked
import GoSem.Claim
import GoSem.ClaimJoined
import GoSem.ClaimMapViews
import Derived.JoinedTies
import Derived.KernelRfl
namespace Go.Proofs.Ytegelpeegbngiaa
/- THE CELL 'sum', in the pinned program and in every row, IS THE sha256 OF THE DUMP (.gsa) THAT YtegelpeegbngiaaProg.lean LOADS. Nothing in Lean hashes anything: it is a label: what it is worth is what the hold of that sum in a sandbox is worth. -/
noncomputable def Try.pinned : Pinned := { name := "ytegelpeegbngiaa", sum := "1fa61670626b021fe48a844963341ec700062793fe62316c86a630b4305c711f", checked := Try.checked }
namespace Rows
def none {H : Type} : Left H := { results := [], args := [] }

/-- 'laws.FnExactSetAny': WHATEVER THE INPUT: true; the input reads as it did. -/
def fnExactSetAnySpec : ChangeSpec := { name := "fnExactSetAny", fn := fun _ => fun
  | [d1, d2] => { results := [.lit (.bool true)], args := [d1, d2] }
  | _ => none }
def fnExactSetAnyRow : OpenClaim := { program := "ytegelpeegbngiaa", sum := "1fa61670626b021fe48a844963341ec700062793fe62316c86a630b4305c711f", func := "loop.example/quincunx/laws.FnExactSetAny", spec := "fnExactSetAny", recurses := true, apart := false }
def FnExactSetAnySaid : Prop := fnExactSetAnyRow.holds Try.pinned (OpenSpec.ofChange fnExactSetAnySpec)

/-- ITS FALSE NEIGHBOUR: 'it returns false'. Refute it at one input. -/
def fnExactSetAnyWrong : ChangeSpec := { name := "fnExactSetAny", fn := fun _ => fun
  | [d1, d2] => { results := [.lit (.bool false)], args := [d1, d2] }
  | _ => none }
def FnExactSetAnyWrongFalsely : Prop := fnExactSetAnyRow.holds Try.pinned (OpenSpec.ofChange fnExactSetAnyWrong)

/-- 'laws.FnExactSetAdd': WHATEVER THE INPUT: true; the input reads as it did. -/
def fnExactSetAddSpec : ChangeSpec := { name := "fnExactSetAdd", fn := fun _ => fun
  | [d1, d2] => { results := [.lit (.bool true)], args := [d1, d2] }
  | _ => none }
def fnExactSetAddRow : OpenClaim := { program := "ytegelpeegbngiaa", sum := "1fa61670626b021fe48a844963341ec700062793fe62316c86a630b4305c711f", func := "loop.example/quincunx/laws.FnExactSetAdd", spec := "fnExactSetAdd", recurses := true, apart := false }
def FnExactSetAddSaid : Prop := fnExactSetAddRow.holds Try.pinned (OpenSpec.ofChange fnExactSetAddSpec)

/-- ITS FALSE NEIGHBOUR: 'it returns false'. Refute it at one input. -/
def fnExactSetAddWrong : ChangeSpec := { name := "fnExactSetAdd", fn := fun _ => fun
  | [d1, d2] => { results := [.lit (.bool false)], args := [d1, d2] }
  | _ => none }
def FnExactSetAddWrongFalsely : Prop := fnExactSetAddRow.holds Try.pinned (OpenSpec.ofChange fnExactSetAddWrong)

/-- 'laws.FnExactFieldsPut': WHATEVER THE INPUT: true; the input reads as it did. -/
def fnExactFieldsPutSpec : ChangeSpec := { name := "fnExactFieldsPut", fn := fun _ => fun
  | [d1, d2] => { results := [.lit (.bool true)], args := [d1, d2] }
  | _ => none }
def fnExactFieldsPutRow : OpenClaim := { program := "ytegelpeegbngiaa", sum := "1fa61670626b021fe48a844963341ec700062793fe62316c86a630b4305c711f", func := "loop.example/quincunx/laws.FnExactFieldsPut", spec := "fnExactFieldsPut", unfollowed := true, recurses := true, apart := false }
def FnExactFieldsPutSaid : Prop := fnExactFieldsPutRow.holds Try.pinned (OpenSpec.ofChange fnExactFieldsPutSpec)

/-- ITS FALSE NEIGHBOUR: 'it returns false'. Refute it at one input. -/
def fnExactFieldsPutWrong : ChangeSpec := { name := "fnExactFieldsPut", fn := fun _ => fun
  | [d1, d2] => { results := [.lit (.bool false)], args := [d1, d2] }
  | _ => none }
def FnExactFieldsPutWrongFalsely : Prop := fnExactFieldsPutRow.holds Try.pinned (OpenSpec.ofChange fnExactFieldsPutWrong)

/-- 'laws.FnFieldsPut': WHATEVER THE INPUT: true; the input reads as it did. -/
def fnFieldsPutSpec : ChangeSpec := { name := "fnFieldsPut", fn := fun _ => fun
  | [d] => { results := [.lit (.bool true)], args := [d] }
  | _ => none }
def fnFieldsPutRow : OpenClaim := { program := "ytegelpeegbngiaa", sum := "1fa61670626b021fe48a844963341ec700062793fe62316c86a630b4305c711f", func := "loop.example/quincunx/laws.FnFieldsPut", spec := "fnFieldsPut", unfollowed := true, recurses := true, apart := false }
def FnFieldsPutSaid : Prop := fnFieldsPutRow.holds Try.pinned (OpenSpec.ofChange fnFieldsPutSpec)

/-- ITS FALSE NEIGHBOUR: 'it returns false'. Refute it at one input. -/
def fnFieldsPutWrong : ChangeSpec := { name := "fnFieldsPut", fn := fun _ => fun
  | [d] => { results := [.lit (.bool false)], args := [d] }
  | _ => none }
def FnFieldsPutWrongFalsely : Prop := fnFieldsPutRow.holds Try.pinned (OpenSpec.ofChange fnFieldsPutWrong)

/-- 'laws.FnSetAdd': WHATEVER THE INPUT: true; the input reads as it did. -/
def fnSetAddSpec : ChangeSpec := { name := "fnSetAdd", fn := fun _ => fun
  | [d] => { results := [.lit (.bool true)], args := [d] }
  | _ => none }
def fnSetAddRow : OpenClaim := { program := "ytegelpeegbngiaa", sum := "1fa61670626b021fe48a844963341ec700062793fe62316c86a630b4305c711f", func := "loop.example/quincunx/laws.FnSetAdd", spec := "fnSetAdd", recurses := true, apart := false }
def FnSetAddSaid : Prop := fnSetAddRow.holds Try.pinned (OpenSpec.ofChange fnSetAddSpec)

/-- ITS FALSE NEIGHBOUR: 'it returns false'. Refute it at one input. -/
def fnSetAddWrong : ChangeSpec := { name := "fnSetAdd", fn := fun _ => fun
  | [d] => { results := [.lit (.bool false)], args := [d] }
  | _ => none }
def FnSetAddWrongFalsely : Prop := fnSetAddRow.holds Try.pinned (OpenSpec.ofChange fnSetAddWrong)

/-- 'laws.FnFieldsDrop': WHATEVER THE INPUT: true; the input reads as it did. -/
def fnFieldsDropSpec : ChangeSpec := { name := "fnFieldsDrop", fn := fun _ => fun
  | [d] => { results := [.lit (.bool true)], args := [d] }
  | _ => none }
def fnFieldsDropRow : OpenClaim := { program := "ytegelpeegbngiaa", sum := "1fa61670626b021fe48a844963341ec700062793fe62316c86a630b4305c711f", func := "loop.example/quincunx/laws.FnFieldsDrop", spec := "fnFieldsDrop", unfollowed := true, recurses := true, apart := false }
def FnFieldsDropSaid : Prop := fnFieldsDropRow.holds Try.pinned (OpenSpec.ofChange fnFieldsDropSpec)

/-- ITS FALSE NEIGHBOUR: 'it returns false'. Refute it at one input. -/
def fnFieldsDropWrong : ChangeSpec := { name := "fnFieldsDrop", fn := fun _ => fun
  | [d] => { results := [.lit (.bool false)], args := [d] }
  | _ => none }
def FnFieldsDropWrongFalsely : Prop := fnFieldsDropRow.holds Try.pinned (OpenSpec.ofChange fnFieldsDropWrong)

/-- 'laws.FnSetBoth': WHATEVER THE INPUT: true; the input reads as it did. -/
def fnSetBothSpec : ChangeSpec := { name := "fnSetBoth", fn := fun _ => fun
  | [d] => { results := [.lit (.bool true)], args := [d] }
  | _ => none }
def fnSetBothRow : OpenClaim := { program := "ytegelpeegbngiaa", sum := "1fa61670626b021fe48a844963341ec700062793fe62316c86a630b4305c711f", func := "loop.example/quincunx/laws.FnSetBoth", spec := "fnSetBoth", recurses := true, apart := false }
def FnSetBothSaid : Prop := fnSetBothRow.holds Try.pinned (OpenSpec.ofChange fnSetBothSpec)

/-- ITS FALSE NEIGHBOUR: 'it returns false'. Refute it at one input. -/
def fnSetBothWrong : ChangeSpec := { name := "fnSetBoth", fn := fun _ => fun
  | [d] => { results := [.lit (.bool false)], args := [d] }
  | _ => none }
def FnSetBothWrongFalsely : Prop := fnSetBothRow.holds Try.pinned (OpenSpec.ofChange fnSetBothWrong)

/- THE SECOND FORM. 'bulk': how many values and letters a reading holds, each counted each time it is reached (what is shared counts as often as it is met; a slice's spare places count too). A statement '..UptoSaid' is the law's where the arguments, and the package variables that the reading takes, are together of bulk at most 1048576: NARROWER than '..Said'. Prove '..Said' where nothing that the law and all that it calls make is longer than what came in: it says more and counts as full. Else prove '..UptoSaid'. A law counts once. -/
mutual
def uptoBulk {H : Type} : DataW H → Nat
  | .lit (.string bytes) => bytes.length + 1
  | .lit _ => 1
  | .nil => 1
  | .ptr d => uptoBulk d + 1
  | .slice elems spare => uptoBulkAll elems + uptoBulkAll spare + 1
  | .agg parts => uptoBulkAll parts + 1
  | .iface _ d => uptoBulk d + 1
  | .map entries => uptoBulkEntries entries + 1
  | .held _ => 1
def uptoBulkAll {H : Type} : List (DataW H) → Nat
  | [] => 0
  | d :: r => uptoBulk d + uptoBulkAll r
def uptoBulkEntries {H : Type} : List (Lit × DataW H) → Nat
  | [] => 0
  | x :: r => uptoBulkEntry x + uptoBulkEntries r
def uptoBulkEntry {H : Type} : Lit × DataW H → Nat
  | (.string bytes, d) => bytes.length + uptoBulk d + 1
  | (_, d) => uptoBulk d + 1
 end
def uptoSmall : (H : Type) → List (DataW H) → Bool := fun _ ds => decide (uptoBulkAll ds ≤ 1048576)
def OpenSpec.upto (s : _root_.Go.ChangeSpec) : _root_.Go.OpenSpec := { _root_.Go.OpenSpec.ofChange s with cond := some uptoSmall }

/-- 'laws.FnExactSetAny', WHERE WHAT IT READS IS OF BULK AT MOST 1048576: true; the input reads as it did. -/
def fnExactSetAnyUptoRow : OpenClaim := { program := "ytegelpeegbngiaa", sum := "1fa61670626b021fe48a844963341ec700062793fe62316c86a630b4305c711f", func := "loop.example/quincunx/laws.FnExactSetAny", spec := "fnExactSetAny", recurses := true, apart := false, narrowed := true }
def FnExactSetAnyUptoSaid : Prop := fnExactSetAnyUptoRow.holds Try.pinned (OpenSpec.upto fnExactSetAnySpec)

/-- 'laws.FnExactSetAdd', WHERE WHAT IT READS IS OF BULK AT MOST 1048576: true; the input reads as it did. -/
def fnExactSetAddUptoRow : OpenClaim := { program := "ytegelpeegbngiaa", sum := "1fa61670626b021fe48a844963341ec700062793fe62316c86a630b4305c711f", func := "loop.example/quincunx/laws.FnExactSetAdd", spec := "fnExactSetAdd", recurses := true, apart := false, narrowed := true }
def FnExactSetAddUptoSaid : Prop := fnExactSetAddUptoRow.holds Try.pinned (OpenSpec.upto fnExactSetAddSpec)

/-- 'laws.FnExactFieldsPut', WHERE WHAT IT READS IS OF BULK AT MOST 1048576: true; the input reads as it did. -/
def fnExactFieldsPutUptoRow : OpenClaim := { program := "ytegelpeegbngiaa", sum := "1fa61670626b021fe48a844963341ec700062793fe62316c86a630b4305c711f", func := "loop.example/quincunx/laws.FnExactFieldsPut", spec := "fnExactFieldsPut", unfollowed := true, recurses := true, apart := false, narrowed := true }
def FnExactFieldsPutUptoSaid : Prop := fnExactFieldsPutUptoRow.holds Try.pinned (OpenSpec.upto fnExactFieldsPutSpec)

/-- 'laws.FnFieldsPut', WHERE WHAT IT READS IS OF BULK AT MOST 1048576: true; the input reads as it did. -/
def fnFieldsPutUptoRow : OpenClaim := { program := "ytegelpeegbngiaa", sum := "1fa61670626b021fe48a844963341ec700062793fe62316c86a630b4305c711f", func := "loop.example/quincunx/laws.FnFieldsPut", spec := "fnFieldsPut", unfollowed := true, recurses := true, apart := false, narrowed := true }
def FnFieldsPutUptoSaid : Prop := fnFieldsPutUptoRow.holds Try.pinned (OpenSpec.upto fnFieldsPutSpec)

/-- 'laws.FnSetAdd', WHERE WHAT IT READS IS OF BULK AT MOST 1048576: true; the input reads as it did. -/
def fnSetAddUptoRow : OpenClaim := { program := "ytegelpeegbngiaa", sum := "1fa61670626b021fe48a844963341ec700062793fe62316c86a630b4305c711f", func := "loop.example/quincunx/laws.FnSetAdd", spec := "fnSetAdd", recurses := true, apart := false, narrowed := true }
def FnSetAddUptoSaid : Prop := fnSetAddUptoRow.holds Try.pinned (OpenSpec.upto fnSetAddSpec)

/-- 'laws.FnFieldsDrop', WHERE WHAT IT READS IS OF BULK AT MOST 1048576: true; the input reads as it did. -/
def fnFieldsDropUptoRow : OpenClaim := { program := "ytegelpeegbngiaa", sum := "1fa61670626b021fe48a844963341ec700062793fe62316c86a630b4305c711f", func := "loop.example/quincunx/laws.FnFieldsDrop", spec := "fnFieldsDrop", unfollowed := true, recurses := true, apart := false, narrowed := true }
def FnFieldsDropUptoSaid : Prop := fnFieldsDropUptoRow.holds Try.pinned (OpenSpec.upto fnFieldsDropSpec)

/-- 'laws.FnSetBoth', WHERE WHAT IT READS IS OF BULK AT MOST 1048576: true; the input reads as it did. -/
def fnSetBothUptoRow : OpenClaim := { program := "ytegelpeegbngiaa", sum := "1fa61670626b021fe48a844963341ec700062793fe62316c86a630b4305c711f", func := "loop.example/quincunx/laws.FnSetBoth", spec := "fnSetBoth", recurses := true, apart := false, narrowed := true }
def FnSetBothUptoSaid : Prop := fnSetBothUptoRow.holds Try.pinned (OpenSpec.upto fnSetBothSpec)

end Rows
end Go.Proofs.Ytegelpeegbngiaa
