/-
  No cell of these rows narrows 'for every input' (looked for: loops, veiled, ifaces, maps, wideKeys, modest, calm, conditions, laid).
  DERIVED. THE GIVEN ROWS OF THIS SEAT. 11 by the template 'for every input the law returns true; each argument reads behind the call as it read before'; 0 by the template 'total and deterministic' (their statements: YtcpnekdhdmncfaaTotals.lean).
  GIVEN WITH THE SEED: the statements are not yours to turn. If you find one false, say at which input.
  Laid BY PROGRAM, IN A SANDBOX (cutbox-rows.mjs): the forced cells as the released guide's own fill.sh prints them over the translation 083bbe366a4a0fd9… (all of the seat's roots in one cut). By AI agents, Wed Nov 11 2026. No macro, syntax, notation, axiom, sorry.
-/
import Derived.Test.YtcpnekdhdmncfaaChecked
import GoSem.Claim
import GoSem.ClaimJoined
import GoSem.ClaimMapViews
import Derived.JoinedTies
import Derived.KernelRfl
namespace Go.Proofs.Ytcpnekdhdmncfaa
/- THE CELL 'sum', in the pinned program and in every row, IS THE sha256 OF THE DUMP (.gsa) THAT YtcpnekdhdmncfaaProg.lean LOADS. Nothing in Lean hashes anything: it is a label: what it is worth is what the hold of that sum in a sandbox is worth. -/
noncomputable def Try.pinned : Pinned := { name := "ytcpnekdhdmncfaa", sum := "083bbe366a4a0fd951f7d963fc6f01542a9e6d046d30d458c243dce066e22124", checked := Try.checked }
namespace Rows
def none {H : Type} : Left H := { results := [], args := [] }

/-- 'laws.FnExactScoresOk': WHATEVER THE INPUT: true; the input reads as it did. -/
def fnExactScoresOkSpec : ChangeSpec := { name := "fnExactScoresOk", fn := fun _ => fun
  | [d] => { results := [.lit (.bool true)], args := [d] }
  | _ => none }
def fnExactScoresOkRow : OpenClaim := { program := "ytcpnekdhdmncfaa", sum := "083bbe366a4a0fd951f7d963fc6f01542a9e6d046d30d458c243dce066e22124", func := "loop.example/quincunx/laws.FnExactScoresOk", spec := "fnExactScoresOk", unfollowed := true, recurses := true, apart := false }
def FnExactScoresOkSaid : Prop := fnExactScoresOkRow.holds Try.pinned (OpenSpec.ofChange fnExactScoresOkSpec)

/-- ITS FALSE NEIGHBOUR: 'it returns false'. Refute it at one input. -/
def fnExactScoresOkWrong : ChangeSpec := { name := "fnExactScoresOk", fn := fun _ => fun
  | [d] => { results := [.lit (.bool false)], args := [d] }
  | _ => none }
def FnExactScoresOkWrongFalsely : Prop := fnExactScoresOkRow.holds Try.pinned (OpenSpec.ofChange fnExactScoresOkWrong)

/-- 'laws.FnExactScoresRank': WHATEVER THE INPUT: true; the input reads as it did. -/
def fnExactScoresRankSpec : ChangeSpec := { name := "fnExactScoresRank", fn := fun _ => fun
  | [d1, d2] => { results := [.lit (.bool true)], args := [d1, d2] }
  | _ => none }
def fnExactScoresRankRow : OpenClaim := { program := "ytcpnekdhdmncfaa", sum := "083bbe366a4a0fd951f7d963fc6f01542a9e6d046d30d458c243dce066e22124", func := "loop.example/quincunx/laws.FnExactScoresRank", spec := "fnExactScoresRank", unfollowed := true, recurses := true, apart := false }
def FnExactScoresRankSaid : Prop := fnExactScoresRankRow.holds Try.pinned (OpenSpec.ofChange fnExactScoresRankSpec)

/-- ITS FALSE NEIGHBOUR: 'it returns false'. Refute it at one input. -/
def fnExactScoresRankWrong : ChangeSpec := { name := "fnExactScoresRank", fn := fun _ => fun
  | [d1, d2] => { results := [.lit (.bool false)], args := [d1, d2] }
  | _ => none }
def FnExactScoresRankWrongFalsely : Prop := fnExactScoresRankRow.holds Try.pinned (OpenSpec.ofChange fnExactScoresRankWrong)

/-- 'laws.FnExactScoresBy': WHATEVER THE INPUT: true; the input reads as it did. -/
def fnExactScoresBySpec : ChangeSpec := { name := "fnExactScoresBy", fn := fun _ => fun
  | [d1, d2, d3] => { results := [.lit (.bool true)], args := [d1, d2, d3] }
  | _ => none }
def fnExactScoresByRow : OpenClaim := { program := "ytcpnekdhdmncfaa", sum := "083bbe366a4a0fd951f7d963fc6f01542a9e6d046d30d458c243dce066e22124", func := "loop.example/quincunx/laws.FnExactScoresBy", spec := "fnExactScoresBy", unfollowed := true, recurses := true, apart := false }
def FnExactScoresBySaid : Prop := fnExactScoresByRow.holds Try.pinned (OpenSpec.ofChange fnExactScoresBySpec)

/-- ITS FALSE NEIGHBOUR: 'it returns false'. Refute it at one input. -/
def fnExactScoresByWrong : ChangeSpec := { name := "fnExactScoresBy", fn := fun _ => fun
  | [d1, d2, d3] => { results := [.lit (.bool false)], args := [d1, d2, d3] }
  | _ => none }
def FnExactScoresByWrongFalsely : Prop := fnExactScoresByRow.holds Try.pinned (OpenSpec.ofChange fnExactScoresByWrong)

/-- 'laws.FnExactScoresDrop': WHATEVER THE INPUT: true; the input reads as it did. -/
def fnExactScoresDropSpec : ChangeSpec := { name := "fnExactScoresDrop", fn := fun _ => fun
  | [d1, d2] => { results := [.lit (.bool true)], args := [d1, d2] }
  | _ => none }
def fnExactScoresDropRow : OpenClaim := { program := "ytcpnekdhdmncfaa", sum := "083bbe366a4a0fd951f7d963fc6f01542a9e6d046d30d458c243dce066e22124", func := "loop.example/quincunx/laws.FnExactScoresDrop", spec := "fnExactScoresDrop", unfollowed := true, recurses := true, apart := false }
def FnExactScoresDropSaid : Prop := fnExactScoresDropRow.holds Try.pinned (OpenSpec.ofChange fnExactScoresDropSpec)

/-- ITS FALSE NEIGHBOUR: 'it returns false'. Refute it at one input. -/
def fnExactScoresDropWrong : ChangeSpec := { name := "fnExactScoresDrop", fn := fun _ => fun
  | [d1, d2] => { results := [.lit (.bool false)], args := [d1, d2] }
  | _ => none }
def FnExactScoresDropWrongFalsely : Prop := fnExactScoresDropRow.holds Try.pinned (OpenSpec.ofChange fnExactScoresDropWrong)

/-- 'laws.FnExactScoresAt': WHATEVER THE INPUT: true; the input reads as it did. -/
def fnExactScoresAtSpec : ChangeSpec := { name := "fnExactScoresAt", fn := fun _ => fun
  | [d1, d2, d3] => { results := [.lit (.bool true)], args := [d1, d2, d3] }
  | _ => none }
def fnExactScoresAtRow : OpenClaim := { program := "ytcpnekdhdmncfaa", sum := "083bbe366a4a0fd951f7d963fc6f01542a9e6d046d30d458c243dce066e22124", func := "loop.example/quincunx/laws.FnExactScoresAt", spec := "fnExactScoresAt", unfollowed := true, recurses := true, apart := false }
def FnExactScoresAtSaid : Prop := fnExactScoresAtRow.holds Try.pinned (OpenSpec.ofChange fnExactScoresAtSpec)

/-- ITS FALSE NEIGHBOUR: 'it returns false'. Refute it at one input. -/
def fnExactScoresAtWrong : ChangeSpec := { name := "fnExactScoresAt", fn := fun _ => fun
  | [d1, d2, d3] => { results := [.lit (.bool false)], args := [d1, d2, d3] }
  | _ => none }
def FnExactScoresAtWrongFalsely : Prop := fnExactScoresAtRow.holds Try.pinned (OpenSpec.ofChange fnExactScoresAtWrong)

/-- 'laws.FnScoresRank': WHATEVER THE INPUT: true; the input reads as it did. -/
def fnScoresRankSpec : ChangeSpec := { name := "fnScoresRank", fn := fun _ => fun
  | [d] => { results := [.lit (.bool true)], args := [d] }
  | _ => none }
def fnScoresRankRow : OpenClaim := { program := "ytcpnekdhdmncfaa", sum := "083bbe366a4a0fd951f7d963fc6f01542a9e6d046d30d458c243dce066e22124", func := "loop.example/quincunx/laws.FnScoresRank", spec := "fnScoresRank", unfollowed := true, recurses := true, apart := false }
def FnScoresRankSaid : Prop := fnScoresRankRow.holds Try.pinned (OpenSpec.ofChange fnScoresRankSpec)

/-- ITS FALSE NEIGHBOUR: 'it returns false'. Refute it at one input. -/
def fnScoresRankWrong : ChangeSpec := { name := "fnScoresRank", fn := fun _ => fun
  | [d] => { results := [.lit (.bool false)], args := [d] }
  | _ => none }
def FnScoresRankWrongFalsely : Prop := fnScoresRankRow.holds Try.pinned (OpenSpec.ofChange fnScoresRankWrong)

/-- 'laws.FnScoresDrop': WHATEVER THE INPUT: true; the input reads as it did. -/
def fnScoresDropSpec : ChangeSpec := { name := "fnScoresDrop", fn := fun _ => fun
  | [d] => { results := [.lit (.bool true)], args := [d] }
  | _ => none }
def fnScoresDropRow : OpenClaim := { program := "ytcpnekdhdmncfaa", sum := "083bbe366a4a0fd951f7d963fc6f01542a9e6d046d30d458c243dce066e22124", func := "loop.example/quincunx/laws.FnScoresDrop", spec := "fnScoresDrop", unfollowed := true, recurses := true, apart := false }
def FnScoresDropSaid : Prop := fnScoresDropRow.holds Try.pinned (OpenSpec.ofChange fnScoresDropSpec)

/-- ITS FALSE NEIGHBOUR: 'it returns false'. Refute it at one input. -/
def fnScoresDropWrong : ChangeSpec := { name := "fnScoresDrop", fn := fun _ => fun
  | [d] => { results := [.lit (.bool false)], args := [d] }
  | _ => none }
def FnScoresDropWrongFalsely : Prop := fnScoresDropRow.holds Try.pinned (OpenSpec.ofChange fnScoresDropWrong)

/-- 'laws.FnScoresBy': WHATEVER THE INPUT: true; the input reads as it did. -/
def fnScoresBySpec : ChangeSpec := { name := "fnScoresBy", fn := fun _ => fun
  | [d] => { results := [.lit (.bool true)], args := [d] }
  | _ => none }
def fnScoresByRow : OpenClaim := { program := "ytcpnekdhdmncfaa", sum := "083bbe366a4a0fd951f7d963fc6f01542a9e6d046d30d458c243dce066e22124", func := "loop.example/quincunx/laws.FnScoresBy", spec := "fnScoresBy", unfollowed := true, recurses := true, apart := false }
def FnScoresBySaid : Prop := fnScoresByRow.holds Try.pinned (OpenSpec.ofChange fnScoresBySpec)

/-- ITS FALSE NEIGHBOUR: 'it returns false'. Refute it at one input. -/
def fnScoresByWrong : ChangeSpec := { name := "fnScoresBy", fn := fun _ => fun
  | [d] => { results := [.lit (.bool false)], args := [d] }
  | _ => none }
def FnScoresByWrongFalsely : Prop := fnScoresByRow.holds Try.pinned (OpenSpec.ofChange fnScoresByWrong)

/-- 'laws.FnScoresAt': WHATEVER THE INPUT: true; the input reads as it did. -/
def fnScoresAtSpec : ChangeSpec := { name := "fnScoresAt", fn := fun _ => fun
  | [d] => { results := [.lit (.bool true)], args := [d] }
  | _ => none }
def fnScoresAtRow : OpenClaim := { program := "ytcpnekdhdmncfaa", sum := "083bbe366a4a0fd951f7d963fc6f01542a9e6d046d30d458c243dce066e22124", func := "loop.example/quincunx/laws.FnScoresAt", spec := "fnScoresAt", unfollowed := true, recurses := true, apart := false }
def FnScoresAtSaid : Prop := fnScoresAtRow.holds Try.pinned (OpenSpec.ofChange fnScoresAtSpec)

/-- ITS FALSE NEIGHBOUR: 'it returns false'. Refute it at one input. -/
def fnScoresAtWrong : ChangeSpec := { name := "fnScoresAt", fn := fun _ => fun
  | [d] => { results := [.lit (.bool false)], args := [d] }
  | _ => none }
def FnScoresAtWrongFalsely : Prop := fnScoresAtRow.holds Try.pinned (OpenSpec.ofChange fnScoresAtWrong)

/-- 'laws.FnExactScoresPut': WHATEVER THE INPUT: true; the input reads as it did. -/
def fnExactScoresPutSpec : ChangeSpec := { name := "fnExactScoresPut", fn := fun _ => fun
  | [d1, d2] => { results := [.lit (.bool true)], args := [d1, d2] }
  | _ => none }
def fnExactScoresPutRow : OpenClaim := { program := "ytcpnekdhdmncfaa", sum := "083bbe366a4a0fd951f7d963fc6f01542a9e6d046d30d458c243dce066e22124", func := "loop.example/quincunx/laws.FnExactScoresPut", spec := "fnExactScoresPut", unfollowed := true, recurses := true, apart := false }
def FnExactScoresPutSaid : Prop := fnExactScoresPutRow.holds Try.pinned (OpenSpec.ofChange fnExactScoresPutSpec)

/-- ITS FALSE NEIGHBOUR: 'it returns false'. Refute it at one input. -/
def fnExactScoresPutWrong : ChangeSpec := { name := "fnExactScoresPut", fn := fun _ => fun
  | [d1, d2] => { results := [.lit (.bool false)], args := [d1, d2] }
  | _ => none }
def FnExactScoresPutWrongFalsely : Prop := fnExactScoresPutRow.holds Try.pinned (OpenSpec.ofChange fnExactScoresPutWrong)

/-- 'laws.FnScoresPut': WHATEVER THE INPUT: true; the input reads as it did. -/
def fnScoresPutSpec : ChangeSpec := { name := "fnScoresPut", fn := fun _ => fun
  | [d] => { results := [.lit (.bool true)], args := [d] }
  | _ => none }
def fnScoresPutRow : OpenClaim := { program := "ytcpnekdhdmncfaa", sum := "083bbe366a4a0fd951f7d963fc6f01542a9e6d046d30d458c243dce066e22124", func := "loop.example/quincunx/laws.FnScoresPut", spec := "fnScoresPut", unfollowed := true, recurses := true, apart := false }
def FnScoresPutSaid : Prop := fnScoresPutRow.holds Try.pinned (OpenSpec.ofChange fnScoresPutSpec)

/-- ITS FALSE NEIGHBOUR: 'it returns false'. Refute it at one input. -/
def fnScoresPutWrong : ChangeSpec := { name := "fnScoresPut", fn := fun _ => fun
  | [d] => { results := [.lit (.bool false)], args := [d] }
  | _ => none }
def FnScoresPutWrongFalsely : Prop := fnScoresPutRow.holds Try.pinned (OpenSpec.ofChange fnScoresPutWrong)

/- THE SECOND FORM. 'bulk': how many values and letters a reading holds, each counted each time it is reached (what is shared counts as often as it is met; a slice's spare places count too). A statement '..UptoSaid' is the law's where the arguments, and the package variables that the reading takes, are together of bulk at most 1048576: NARROWER than '..Said'. Prove '..Said' where nothing that the law and all that it calls make is longer than what came in: it says more and counts as full. Else prove '..UptoSaid'. A law counts once. -/
mutual
def uptoBulk {H : Type} : DataW H → Nat
  | .lit (.string bytes) => bytes.length + 1
  | .lit _ => 1
  | .nil => 1
  | .ptr d => uptoBulk d + 1
  | .slice elems spare => uptoBulkAll elems + uptoBulkAll spare + 1
  | .agg parts => uptoBulkAll parts + 1
  | .iface _ d => uptoBulk d + 1
  | .map entries => uptoBulkEntries entries + 1
  | .held _ => 1
def uptoBulkAll {H : Type} : List (DataW H) → Nat
  | [] => 0
  | d :: r => uptoBulk d + uptoBulkAll r
def uptoBulkEntries {H : Type} : List (Lit × DataW H) → Nat
  | [] => 0
  | x :: r => uptoBulkEntry x + uptoBulkEntries r
def uptoBulkEntry {H : Type} : Lit × DataW H → Nat
  | (.string bytes, d) => bytes.length + uptoBulk d + 1
  | (_, d) => uptoBulk d + 1
 end
def uptoSmall : (H : Type) → List (DataW H) → Bool := fun _ ds => decide (uptoBulkAll ds ≤ 1048576)
def OpenSpec.upto (s : _root_.Go.ChangeSpec) : _root_.Go.OpenSpec := { _root_.Go.OpenSpec.ofChange s with cond := some uptoSmall }

/-- 'laws.FnExactScoresOk', WHERE WHAT IT READS IS OF BULK AT MOST 1048576: true; the input reads as it did. -/
def fnExactScoresOkUptoRow : OpenClaim := { program := "ytcpnekdhdmncfaa", sum := "083bbe366a4a0fd951f7d963fc6f01542a9e6d046d30d458c243dce066e22124", func := "loop.example/quincunx/laws.FnExactScoresOk", spec := "fnExactScoresOk", unfollowed := true, recurses := true, apart := false, narrowed := true }
def FnExactScoresOkUptoSaid : Prop := fnExactScoresOkUptoRow.holds Try.pinned (OpenSpec.upto fnExactScoresOkSpec)

/-- 'laws.FnExactScoresRank', WHERE WHAT IT READS IS OF BULK AT MOST 1048576: true; the input reads as it did. -/
def fnExactScoresRankUptoRow : OpenClaim := { program := "ytcpnekdhdmncfaa", sum := "083bbe366a4a0fd951f7d963fc6f01542a9e6d046d30d458c243dce066e22124", func := "loop.example/quincunx/laws.FnExactScoresRank", spec := "fnExactScoresRank", unfollowed := true, recurses := true, apart := false, narrowed := true }
def FnExactScoresRankUptoSaid : Prop := fnExactScoresRankUptoRow.holds Try.pinned (OpenSpec.upto fnExactScoresRankSpec)

/-- 'laws.FnExactScoresBy', WHERE WHAT IT READS IS OF BULK AT MOST 1048576: true; the input reads as it did. -/
def fnExactScoresByUptoRow : OpenClaim := { program := "ytcpnekdhdmncfaa", sum := "083bbe366a4a0fd951f7d963fc6f01542a9e6d046d30d458c243dce066e22124", func := "loop.example/quincunx/laws.FnExactScoresBy", spec := "fnExactScoresBy", unfollowed := true, recurses := true, apart := false, narrowed := true }
def FnExactScoresByUptoSaid : Prop := fnExactScoresByUptoRow.holds Try.pinned (OpenSpec.upto fnExactScoresBySpec)

/-- 'laws.FnExactScoresDrop', WHERE WHAT IT READS IS OF BULK AT MOST 1048576: true; the input reads as it did. -/
def fnExactScoresDropUptoRow : OpenClaim := { program := "ytcpnekdhdmncfaa", sum := "083bbe366a4a0fd951f7d963fc6f01542a9e6d046d30d458c243dce066e22124", func := "loop.example/quincunx/laws.FnExactScoresDrop", spec := "fnExactScoresDrop", unfollowed := true, recurses := true, apart := false, narrowed := true }
def FnExactScoresDropUptoSaid : Prop := fnExactScoresDropUptoRow.holds Try.pinned (OpenSpec.upto fnExactScoresDropSpec)

/-- 'laws.FnExactScoresAt', WHERE WHAT IT READS IS OF BULK AT MOST 1048576: true; the input reads as it did. -/
def fnExactScoresAtUptoRow : OpenClaim := { program := "ytcpnekdhdmncfaa", sum := "083bbe366a4a0fd951f7d963fc6f01542a9e6d046d30d458c243dce066e22124", func := "loop.example/quincunx/laws.FnExactScoresAt", spec := "fnExactScoresAt", unfollowed := true, recurses := true, apart := false, narrowed := true }
def FnExactScoresAtUptoSaid : Prop := fnExactScoresAtUptoRow.holds Try.pinned (OpenSpec.upto fnExactScoresAtSpec)

/-- 'laws.FnScoresRank', WHERE WHAT IT READS IS OF BULK AT MOST 1048576: true; the input reads as it did. -/
def fnScoresRankUptoRow : OpenClaim := { program := "ytcpnekdhdmncfaa", sum := "083bbe366a4a0fd951f7d963fc6f01542a9e6d046d30d458c243dce066e22124", func := "loop.example/quincunx/laws.FnScoresRank", spec := "fnScoresRank", unfollowed := true, recurses := true, apart := false, narrowed := true }
def FnScoresRankUptoSaid : Prop := fnScoresRankUptoRow.holds Try.pinned (OpenSpec.upto fnScoresRankSpec)

/-- 'laws.FnScoresDrop', WHERE WHAT IT READS IS OF BULK AT MOST 1048576: true; the input reads as it did. -/
def fnScoresDropUptoRow : OpenClaim := { program := "ytcpnekdhdmncfaa", sum := "083bbe366a4a0fd951f7d963fc6f01542a9e6d046d30d458c243dce066e22124", func := "loop.example/quincunx/laws.FnScoresDrop", spec := "fnScoresDrop", unfollowed := true, recurses := true, apart := false, narrowed := true }
def FnScoresDropUptoSaid : Prop := fnScoresDropUptoRow.holds Try.pinned (OpenSpec.upto fnScoresDropSpec)

/-- 'laws.FnScoresBy', WHERE WHAT IT READS IS OF BULK AT MOST 1048576: true; the input reads as it did. -/
def fnScoresByUptoRow : OpenClaim := { program := "ytcpnekdhdmncfaa", sum := "083bbe366a4a0fd951f7d963fc6f01542a9e6d046d30d458c243dce066e22124", func := "loop.example/quincunx/laws.FnScoresBy", spec := "fnScoresBy", unfollowed := true, recurses := true, apart := false, narrowed := true }
def FnScoresByUptoSaid : Prop := fnScoresByUptoRow.holds Try.pinned (OpenSpec.upto fnScoresBySpec)

/-- 'laws.FnScoresAt', WHERE WHAT IT READS IS OF BULK AT MOST 1048576: true; the input reads as it did. -/
def fnScoresAtUptoRow : OpenClaim := { program := "ytcpnekdhdmncfaa", sum := "083bbe366a4a0fd951f7d963fc6f01542a9e6d046d30d458c243dce066e22124", func := "loop.example/quincunx/laws.FnScoresAt", spec := "fnScoresAt", unfollowed := true, recurses := true, apart := false, narrowed := true }
def FnScoresAtUptoSaid : Prop := fnScoresAtUptoRow.holds Try.pinned (OpenSpec.upto fnScoresAtSpec)

/-- 'laws.FnExactScoresPut', WHERE WHAT IT READS IS OF BULK AT MOST 1048576: true; the input reads as it did. -/
def fnExactScoresPutUptoRow : OpenClaim := { program := "ytcpnekdhdmncfaa", sum := "083bbe366a4a0fd951f7d963fc6f01542a9e6d046d30d458c243dce066e22124", func := "loop.example/quincunx/laws.FnExactScoresPut", spec := "fnExactScoresPut", unfollowed := true, recurses := true, apart := false, narrowed := true }
def FnExactScoresPutUptoSaid : Prop := fnExactScoresPutUptoRow.holds Try.pinned (OpenSpec.upto fnExactScoresPutSpec)

/-- 'laws.FnScoresPut', WHERE WHAT IT READS IS OF BULK AT MOST 1048576: true; the input reads as it did. -/
def fnScoresPutUptoRow : OpenClaim := { program := "ytcpnekdhdmncfaa", sum := "083bbe366a4a0fd951f7d963fc6f01542a9e6d046d30d458c243dce066e22124", func := "loop.example/quincunx/laws.FnScoresPut", spec := "fnScoresPut", unfollowed := true, recurses := true, apart := false, narrowed := true }
def FnScoresPutUptoSaid : Prop := fnScoresPutUptoRow.holds Try.pinned (OpenSpec.upto fnScoresPutSpec)

end Rows
end Go.Proofs.Ytcpnekdhdmncfaa
