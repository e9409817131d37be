/-
  No cell of these rows narrows 'for every input' (looked for: loops, veiled, ifaces, maps, wideKeys, modest, calm, conditions, laid).
  DERIVED. THE GIVEN ROWS OF THIS SEAT. 11 by the template 'for every input the law returns true; each argument reads behind the call as it read before'; 0 by the template 'total and deterministic' (their statements: YtjdgckamjgldmaaTotals.lean).
  GIVEN WITH THE SEED: the statements are not yours to turn. If you find one false, say at which input.
  Laid BY PROGRAM, IN A SANDBOX (cutbox-rows.mjs): the forced cells as the released guide's own fill.sh prints them over the translation d9aa78c704d59cd7… (all of the seat's roots in one cut). By AI agents, Wed Nov 11 2026. No macro, syntax, notation, axiom, sorry.
-/
import Derived.Test.YtjdgckamjgldmaaChecked
import GoSem.Claim
import GoSem.ClaimJoined
import GoSem.ClaimMapViews
import Derived.JoinedTies
import Derived.KernelRfl
namespace Go.Proofs.Ytjdgckamjgldmaa
/- THE CELL 'sum', in the pinned program and in every row, IS THE sha256 OF THE DUMP (.gsa) THAT YtjdgckamjgldmaaProg.lean LOADS. Nothing in Lean hashes anything: it is a label: what it is worth is what the hold of that sum in a sandbox is worth. -/
noncomputable def Try.pinned : Pinned := { name := "ytjdgckamjgldmaa", sum := "d9aa78c704d59cd7a4437cce6046fb557726bec9591bd16ca74dd30aabd805f1", checked := Try.checked }
namespace Rows
def none {H : Type} : Left H := { results := [], args := [] }

/-- 'signetlaw14.ConfigChecks': WHATEVER THE INPUT: true; the input reads as it did. -/
def configChecksSpec : ChangeSpec := { name := "configChecks", fn := fun _ => fun
  | [d] => { results := [.lit (.bool true)], args := [d] }
  | _ => none }
def configChecksRow : OpenClaim := { program := "ytjdgckamjgldmaa", sum := "d9aa78c704d59cd7a4437cce6046fb557726bec9591bd16ca74dd30aabd805f1", func := "signet/signetlaw14.ConfigChecks", spec := "configChecks", unfollowed := true, recurses := true, apart := false }
def ConfigChecksSaid : Prop := configChecksRow.holds Try.pinned (OpenSpec.ofChange configChecksSpec)

/-- ITS FALSE NEIGHBOUR: 'it returns false'. Refute it at one input. -/
def configChecksWrong : ChangeSpec := { name := "configChecks", fn := fun _ => fun
  | [d] => { results := [.lit (.bool false)], args := [d] }
  | _ => none }
def ConfigChecksWrongFalsely : Prop := configChecksRow.holds Try.pinned (OpenSpec.ofChange configChecksWrong)

/-- 'signetlaw14.ConfigWrites': WHATEVER THE INPUT: true; the input reads as it did. -/
def configWritesSpec : ChangeSpec := { name := "configWrites", fn := fun _ => fun
  | [d1, d2] => { results := [.lit (.bool true)], args := [d1, d2] }
  | _ => none }
def configWritesRow : OpenClaim := { program := "ytjdgckamjgldmaa", sum := "d9aa78c704d59cd7a4437cce6046fb557726bec9591bd16ca74dd30aabd805f1", func := "signet/signetlaw14.ConfigWrites", spec := "configWrites", unfollowed := true, recurses := true, apart := false }
def ConfigWritesSaid : Prop := configWritesRow.holds Try.pinned (OpenSpec.ofChange configWritesSpec)

/-- ITS FALSE NEIGHBOUR: 'it returns false'. Refute it at one input. -/
def configWritesWrong : ChangeSpec := { name := "configWrites", fn := fun _ => fun
  | [d1, d2] => { results := [.lit (.bool false)], args := [d1, d2] }
  | _ => none }
def ConfigWritesWrongFalsely : Prop := configWritesRow.holds Try.pinned (OpenSpec.ofChange configWritesWrong)

/-- 'signetlaw14.ConfigBounds': WHATEVER THE INPUT: true; the input reads as it did. -/
def configBoundsSpec : ChangeSpec := { name := "configBounds", fn := fun _ => fun
  | [d1, d2] => { results := [.lit (.bool true)], args := [d1, d2] }
  | _ => none }
def configBoundsRow : OpenClaim := { program := "ytjdgckamjgldmaa", sum := "d9aa78c704d59cd7a4437cce6046fb557726bec9591bd16ca74dd30aabd805f1", func := "signet/signetlaw14.ConfigBounds", spec := "configBounds", unfollowed := true, recurses := true, apart := false }
def ConfigBoundsSaid : Prop := configBoundsRow.holds Try.pinned (OpenSpec.ofChange configBoundsSpec)

/-- ITS FALSE NEIGHBOUR: 'it returns false'. Refute it at one input. -/
def configBoundsWrong : ChangeSpec := { name := "configBounds", fn := fun _ => fun
  | [d1, d2] => { results := [.lit (.bool false)], args := [d1, d2] }
  | _ => none }
def ConfigBoundsWrongFalsely : Prop := configBoundsRow.holds Try.pinned (OpenSpec.ofChange configBoundsWrong)

/-- 'signetlaw3.NameReads': WHATEVER THE INPUT: true; the input reads as it did. -/
def nameReadsSpec : ChangeSpec := { name := "nameReads", fn := fun _ => fun
  | [d1, d2] => { results := [.lit (.bool true)], args := [d1, d2] }
  | _ => none }
def nameReadsRow : OpenClaim := { program := "ytjdgckamjgldmaa", sum := "d9aa78c704d59cd7a4437cce6046fb557726bec9591bd16ca74dd30aabd805f1", func := "signet/signetlaw3.NameReads", spec := "nameReads", inPlace := ["internal/bytealg.abigen_runtime_cmpstring"], unfollowed := true, recurses := true, apart := false }
def NameReadsSaid : Prop := nameReadsRow.holds Try.pinned (OpenSpec.ofChange nameReadsSpec)

/-- ITS FALSE NEIGHBOUR: 'it returns false'. Refute it at one input. -/
def nameReadsWrong : ChangeSpec := { name := "nameReads", fn := fun _ => fun
  | [d1, d2] => { results := [.lit (.bool false)], args := [d1, d2] }
  | _ => none }
def NameReadsWrongFalsely : Prop := nameReadsRow.holds Try.pinned (OpenSpec.ofChange nameReadsWrong)

/-- 'signetlaw3.NameBack': WHATEVER THE INPUT: true; the input reads as it did. -/
def nameBackSpec : ChangeSpec := { name := "nameBack", fn := fun _ => fun
  | [d1, d2] => { results := [.lit (.bool true)], args := [d1, d2] }
  | _ => none }
def nameBackRow : OpenClaim := { program := "ytjdgckamjgldmaa", sum := "d9aa78c704d59cd7a4437cce6046fb557726bec9591bd16ca74dd30aabd805f1", func := "signet/signetlaw3.NameBack", spec := "nameBack", inPlace := ["internal/bytealg.abigen_runtime_cmpstring"], unfollowed := true, recurses := true, apart := false }
def NameBackSaid : Prop := nameBackRow.holds Try.pinned (OpenSpec.ofChange nameBackSpec)

/-- ITS FALSE NEIGHBOUR: 'it returns false'. Refute it at one input. -/
def nameBackWrong : ChangeSpec := { name := "nameBack", fn := fun _ => fun
  | [d1, d2] => { results := [.lit (.bool false)], args := [d1, d2] }
  | _ => none }
def NameBackWrongFalsely : Prop := nameBackRow.holds Try.pinned (OpenSpec.ofChange nameBackWrong)

/-- 'signetlaw3.NameBelow': WHATEVER THE INPUT: true; the input reads as it did. -/
def nameBelowSpec : ChangeSpec := { name := "nameBelow", fn := fun _ => fun
  | [d1, d2, d3] => { results := [.lit (.bool true)], args := [d1, d2, d3] }
  | _ => none }
def nameBelowRow : OpenClaim := { program := "ytjdgckamjgldmaa", sum := "d9aa78c704d59cd7a4437cce6046fb557726bec9591bd16ca74dd30aabd805f1", func := "signet/signetlaw3.NameBelow", spec := "nameBelow", inPlace := ["internal/bytealg.abigen_runtime_cmpstring"], unfollowed := true, recurses := true, apart := false }
def NameBelowSaid : Prop := nameBelowRow.holds Try.pinned (OpenSpec.ofChange nameBelowSpec)

/-- ITS FALSE NEIGHBOUR: 'it returns false'. Refute it at one input. -/
def nameBelowWrong : ChangeSpec := { name := "nameBelow", fn := fun _ => fun
  | [d1, d2, d3] => { results := [.lit (.bool false)], args := [d1, d2, d3] }
  | _ => none }
def NameBelowWrongFalsely : Prop := nameBelowRow.holds Try.pinned (OpenSpec.ofChange nameBelowWrong)

/-- 'signetlaw3.NameBounds': WHATEVER THE INPUT: true; the input reads as it did. -/
def nameBoundsSpec : ChangeSpec := { name := "nameBounds", fn := fun _ => fun
  | [d1, d2] => { results := [.lit (.bool true)], args := [d1, d2] }
  | _ => none }
def nameBoundsRow : OpenClaim := { program := "ytjdgckamjgldmaa", sum := "d9aa78c704d59cd7a4437cce6046fb557726bec9591bd16ca74dd30aabd805f1", func := "signet/signetlaw3.NameBounds", spec := "nameBounds", inPlace := ["internal/bytealg.abigen_runtime_cmpstring"], unfollowed := true, recurses := true, apart := false }
def NameBoundsSaid : Prop := nameBoundsRow.holds Try.pinned (OpenSpec.ofChange nameBoundsSpec)

/-- ITS FALSE NEIGHBOUR: 'it returns false'. Refute it at one input. -/
def nameBoundsWrong : ChangeSpec := { name := "nameBounds", fn := fun _ => fun
  | [d1, d2] => { results := [.lit (.bool false)], args := [d1, d2] }
  | _ => none }
def NameBoundsWrongFalsely : Prop := nameBoundsRow.holds Try.pinned (OpenSpec.ofChange nameBoundsWrong)

/-- 'signetlaw3.NameBytes': WHATEVER THE INPUT: true; the input reads as it did. -/
def nameBytesSpec : ChangeSpec := { name := "nameBytes", fn := fun _ => fun
  | [d1, d2, d3] => { results := [.lit (.bool true)], args := [d1, d2, d3] }
  | _ => none }
def nameBytesRow : OpenClaim := { program := "ytjdgckamjgldmaa", sum := "d9aa78c704d59cd7a4437cce6046fb557726bec9591bd16ca74dd30aabd805f1", func := "signet/signetlaw3.NameBytes", spec := "nameBytes", inPlace := ["internal/bytealg.abigen_runtime_cmpstring"], unfollowed := true, recurses := true, apart := false }
def NameBytesSaid : Prop := nameBytesRow.holds Try.pinned (OpenSpec.ofChange nameBytesSpec)

/-- ITS FALSE NEIGHBOUR: 'it returns false'. Refute it at one input. -/
def nameBytesWrong : ChangeSpec := { name := "nameBytes", fn := fun _ => fun
  | [d1, d2, d3] => { results := [.lit (.bool false)], args := [d1, d2, d3] }
  | _ => none }
def NameBytesWrongFalsely : Prop := nameBytesRow.holds Try.pinned (OpenSpec.ofChange nameBytesWrong)

/-- 'signetlaw3.NameWrites': WHATEVER THE INPUT: true; the input reads as it did. -/
def nameWritesSpec : ChangeSpec := { name := "nameWrites", fn := fun _ => fun
  | [d] => { results := [.lit (.bool true)], args := [d] }
  | _ => none }
def nameWritesRow : OpenClaim := { program := "ytjdgckamjgldmaa", sum := "d9aa78c704d59cd7a4437cce6046fb557726bec9591bd16ca74dd30aabd805f1", func := "signet/signetlaw3.NameWrites", spec := "nameWrites", inPlace := ["internal/bytealg.abigen_runtime_cmpstring"], unfollowed := true, recurses := true, apart := false }
def NameWritesSaid : Prop := nameWritesRow.holds Try.pinned (OpenSpec.ofChange nameWritesSpec)

/-- ITS FALSE NEIGHBOUR: 'it returns false'. Refute it at one input. -/
def nameWritesWrong : ChangeSpec := { name := "nameWrites", fn := fun _ => fun
  | [d] => { results := [.lit (.bool false)], args := [d] }
  | _ => none }
def NameWritesWrongFalsely : Prop := nameWritesRow.holds Try.pinned (OpenSpec.ofChange nameWritesWrong)

/-- 'signetlaw3.NameOrder': WHATEVER THE INPUT: true; the input reads as it did. -/
def nameOrderSpec : ChangeSpec := { name := "nameOrder", fn := fun _ => fun
  | [d1, d2, d3] => { results := [.lit (.bool true)], args := [d1, d2, d3] }
  | _ => none }
def nameOrderRow : OpenClaim := { program := "ytjdgckamjgldmaa", sum := "d9aa78c704d59cd7a4437cce6046fb557726bec9591bd16ca74dd30aabd805f1", func := "signet/signetlaw3.NameOrder", spec := "nameOrder", inPlace := ["internal/bytealg.abigen_runtime_cmpstring"], unfollowed := true, recurses := true, apart := false }
def NameOrderSaid : Prop := nameOrderRow.holds Try.pinned (OpenSpec.ofChange nameOrderSpec)

/-- ITS FALSE NEIGHBOUR: 'it returns false'. Refute it at one input. -/
def nameOrderWrong : ChangeSpec := { name := "nameOrder", fn := fun _ => fun
  | [d1, d2, d3] => { results := [.lit (.bool false)], args := [d1, d2, d3] }
  | _ => none }
def NameOrderWrongFalsely : Prop := nameOrderRow.holds Try.pinned (OpenSpec.ofChange nameOrderWrong)

/-- 'signetlaw3.NameCase': WHATEVER THE INPUT: true; the input reads as it did. -/
def nameCaseSpec : ChangeSpec := { name := "nameCase", fn := fun _ => fun
  | [d1, d2] => { results := [.lit (.bool true)], args := [d1, d2] }
  | _ => none }
def nameCaseRow : OpenClaim := { program := "ytjdgckamjgldmaa", sum := "d9aa78c704d59cd7a4437cce6046fb557726bec9591bd16ca74dd30aabd805f1", func := "signet/signetlaw3.NameCase", spec := "nameCase", inPlace := ["internal/bytealg.abigen_runtime_cmpstring"], unfollowed := true, recurses := true, apart := false }
def NameCaseSaid : Prop := nameCaseRow.holds Try.pinned (OpenSpec.ofChange nameCaseSpec)

/-- ITS FALSE NEIGHBOUR: 'it returns false'. Refute it at one input. -/
def nameCaseWrong : ChangeSpec := { name := "nameCase", fn := fun _ => fun
  | [d1, d2] => { results := [.lit (.bool false)], args := [d1, d2] }
  | _ => none }
def NameCaseWrongFalsely : Prop := nameCaseRow.holds Try.pinned (OpenSpec.ofChange nameCaseWrong)

/- THE SECOND FORM. 'bulk': how many values and letters a reading holds, each counted each time it is reached (what is shared counts as often as it is met; a slice's spare places count too). A statement '..UptoSaid' is the law's where the arguments, and the package variables that the reading takes, are together of bulk at most 1048576: NARROWER than '..Said'. Prove '..Said' where nothing that the law and all that it calls make is longer than what came in: it says more and counts as full. Else prove '..UptoSaid'. A law counts once. -/
mutual
def uptoBulk {H : Type} : DataW H → Nat
  | .lit (.string bytes) => bytes.length + 1
  | .lit _ => 1
  | .nil => 1
  | .ptr d => uptoBulk d + 1
  | .slice elems spare => uptoBulkAll elems + uptoBulkAll spare + 1
  | .agg parts => uptoBulkAll parts + 1
  | .iface _ d => uptoBulk d + 1
  | .map entries => uptoBulkEntries entries + 1
  | .held _ => 1
def uptoBulkAll {H : Type} : List (DataW H) → Nat
  | [] => 0
  | d :: r => uptoBulk d + uptoBulkAll r
def uptoBulkEntries {H : Type} : List (Lit × DataW H) → Nat
  | [] => 0
  | x :: r => uptoBulkEntry x + uptoBulkEntries r
def uptoBulkEntry {H : Type} : Lit × DataW H → Nat
  | (.string bytes, d) => bytes.length + uptoBulk d + 1
  | (_, d) => uptoBulk d + 1
 end
def uptoSmall : (H : Type) → List (DataW H) → Bool := fun _ ds => decide (uptoBulkAll ds ≤ 1048576)
def OpenSpec.upto (s : _root_.Go.ChangeSpec) : _root_.Go.OpenSpec := { _root_.Go.OpenSpec.ofChange s with cond := some uptoSmall }

/-- 'signetlaw14.ConfigChecks', WHERE WHAT IT READS IS OF BULK AT MOST 1048576: true; the input reads as it did. -/
def configChecksUptoRow : OpenClaim := { program := "ytjdgckamjgldmaa", sum := "d9aa78c704d59cd7a4437cce6046fb557726bec9591bd16ca74dd30aabd805f1", func := "signet/signetlaw14.ConfigChecks", spec := "configChecks", unfollowed := true, recurses := true, apart := false, narrowed := true }
def ConfigChecksUptoSaid : Prop := configChecksUptoRow.holds Try.pinned (OpenSpec.upto configChecksSpec)

/-- 'signetlaw14.ConfigWrites', WHERE WHAT IT READS IS OF BULK AT MOST 1048576: true; the input reads as it did. -/
def configWritesUptoRow : OpenClaim := { program := "ytjdgckamjgldmaa", sum := "d9aa78c704d59cd7a4437cce6046fb557726bec9591bd16ca74dd30aabd805f1", func := "signet/signetlaw14.ConfigWrites", spec := "configWrites", unfollowed := true, recurses := true, apart := false, narrowed := true }
def ConfigWritesUptoSaid : Prop := configWritesUptoRow.holds Try.pinned (OpenSpec.upto configWritesSpec)

/-- 'signetlaw14.ConfigBounds', WHERE WHAT IT READS IS OF BULK AT MOST 1048576: true; the input reads as it did. -/
def configBoundsUptoRow : OpenClaim := { program := "ytjdgckamjgldmaa", sum := "d9aa78c704d59cd7a4437cce6046fb557726bec9591bd16ca74dd30aabd805f1", func := "signet/signetlaw14.ConfigBounds", spec := "configBounds", unfollowed := true, recurses := true, apart := false, narrowed := true }
def ConfigBoundsUptoSaid : Prop := configBoundsUptoRow.holds Try.pinned (OpenSpec.upto configBoundsSpec)

/-- 'signetlaw3.NameReads', WHERE WHAT IT READS IS OF BULK AT MOST 1048576: true; the input reads as it did. -/
def nameReadsUptoRow : OpenClaim := { program := "ytjdgckamjgldmaa", sum := "d9aa78c704d59cd7a4437cce6046fb557726bec9591bd16ca74dd30aabd805f1", func := "signet/signetlaw3.NameReads", spec := "nameReads", inPlace := ["internal/bytealg.abigen_runtime_cmpstring"], unfollowed := true, recurses := true, apart := false, narrowed := true }
def NameReadsUptoSaid : Prop := nameReadsUptoRow.holds Try.pinned (OpenSpec.upto nameReadsSpec)

/-- 'signetlaw3.NameBack', WHERE WHAT IT READS IS OF BULK AT MOST 1048576: true; the input reads as it did. -/
def nameBackUptoRow : OpenClaim := { program := "ytjdgckamjgldmaa", sum := "d9aa78c704d59cd7a4437cce6046fb557726bec9591bd16ca74dd30aabd805f1", func := "signet/signetlaw3.NameBack", spec := "nameBack", inPlace := ["internal/bytealg.abigen_runtime_cmpstring"], unfollowed := true, recurses := true, apart := false, narrowed := true }
def NameBackUptoSaid : Prop := nameBackUptoRow.holds Try.pinned (OpenSpec.upto nameBackSpec)

/-- 'signetlaw3.NameBelow', WHERE WHAT IT READS IS OF BULK AT MOST 1048576: true; the input reads as it did. -/
def nameBelowUptoRow : OpenClaim := { program := "ytjdgckamjgldmaa", sum := "d9aa78c704d59cd7a4437cce6046fb557726bec9591bd16ca74dd30aabd805f1", func := "signet/signetlaw3.NameBelow", spec := "nameBelow", inPlace := ["internal/bytealg.abigen_runtime_cmpstring"], unfollowed := true, recurses := true, apart := false, narrowed := true }
def NameBelowUptoSaid : Prop := nameBelowUptoRow.holds Try.pinned (OpenSpec.upto nameBelowSpec)

/-- 'signetlaw3.NameBounds', WHERE WHAT IT READS IS OF BULK AT MOST 1048576: true; the input reads as it did. -/
def nameBoundsUptoRow : OpenClaim := { program := "ytjdgckamjgldmaa", sum := "d9aa78c704d59cd7a4437cce6046fb557726bec9591bd16ca74dd30aabd805f1", func := "signet/signetlaw3.NameBounds", spec := "nameBounds", inPlace := ["internal/bytealg.abigen_runtime_cmpstring"], unfollowed := true, recurses := true, apart := false, narrowed := true }
def NameBoundsUptoSaid : Prop := nameBoundsUptoRow.holds Try.pinned (OpenSpec.upto nameBoundsSpec)

/-- 'signetlaw3.NameBytes', WHERE WHAT IT READS IS OF BULK AT MOST 1048576: true; the input reads as it did. -/
def nameBytesUptoRow : OpenClaim := { program := "ytjdgckamjgldmaa", sum := "d9aa78c704d59cd7a4437cce6046fb557726bec9591bd16ca74dd30aabd805f1", func := "signet/signetlaw3.NameBytes", spec := "nameBytes", inPlace := ["internal/bytealg.abigen_runtime_cmpstring"], unfollowed := true, recurses := true, apart := false, narrowed := true }
def NameBytesUptoSaid : Prop := nameBytesUptoRow.holds Try.pinned (OpenSpec.upto nameBytesSpec)

/-- 'signetlaw3.NameWrites', WHERE WHAT IT READS IS OF BULK AT MOST 1048576: true; the input reads as it did. -/
def nameWritesUptoRow : OpenClaim := { program := "ytjdgckamjgldmaa", sum := "d9aa78c704d59cd7a4437cce6046fb557726bec9591bd16ca74dd30aabd805f1", func := "signet/signetlaw3.NameWrites", spec := "nameWrites", inPlace := ["internal/bytealg.abigen_runtime_cmpstring"], unfollowed := true, recurses := true, apart := false, narrowed := true }
def NameWritesUptoSaid : Prop := nameWritesUptoRow.holds Try.pinned (OpenSpec.upto nameWritesSpec)

/-- 'signetlaw3.NameOrder', WHERE WHAT IT READS IS OF BULK AT MOST 1048576: true; the input reads as it did. -/
def nameOrderUptoRow : OpenClaim := { program := "ytjdgckamjgldmaa", sum := "d9aa78c704d59cd7a4437cce6046fb557726bec9591bd16ca74dd30aabd805f1", func := "signet/signetlaw3.NameOrder", spec := "nameOrder", inPlace := ["internal/bytealg.abigen_runtime_cmpstring"], unfollowed := true, recurses := true, apart := false, narrowed := true }
def NameOrderUptoSaid : Prop := nameOrderUptoRow.holds Try.pinned (OpenSpec.upto nameOrderSpec)

/-- 'signetlaw3.NameCase', WHERE WHAT IT READS IS OF BULK AT MOST 1048576: true; the input reads as it did. -/
def nameCaseUptoRow : OpenClaim := { program := "ytjdgckamjgldmaa", sum := "d9aa78c704d59cd7a4437cce6046fb557726bec9591bd16ca74dd30aabd805f1", func := "signet/signetlaw3.NameCase", spec := "nameCase", inPlace := ["internal/bytealg.abigen_runtime_cmpstring"], unfollowed := true, recurses := true, apart := false, narrowed := true }
def NameCaseUptoSaid : Prop := nameCaseUptoRow.holds Try.pinned (OpenSpec.upto nameCaseSpec)

end Rows
end Go.Proofs.Ytjdgckamjgldmaa
