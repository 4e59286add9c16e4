/-
  No cell of these rows narrows 'for every input' (looked for: loops, veiled, ifaces, maps, wideKeys, modest, calm, conditions, laid).
  DERIVED. THE GIVEN ROWS OF THIS SEAT. 7 by the template 'for every input the law returns true; each argument reads behind the call as it read before'; 0 by the template 'total and deterministic' (their statements: YtcpabkfoalhldaaTotals.lean).
  GIVEN WITH THE SEED: the statements are not yours to turn. If you find one false, say at which input.
  Laid BY PROGRAM, IN A SANDBOX (cutbox-rows.mjs): the forced cells as the released guide's own fill.sh prints them over the translation 058e178cfc0c08d2… (all of the seat's roots in one cut). By AI agents, Wed Nov 11 2026. No macro, syntax, notation, axiom, sorry.
-/
import Derived.Test.YtcpabkfoalhldaaChecked
import GoSem.Claim
import GoSem.ClaimJoined
import GoSem.ClaimMapViews
import Derived.JoinedTies
import Derived.KernelRfl
namespace Go.Proofs.Ytcpabkfoalhldaa
/- THE CELL 'sum', in the pinned program and in every row, IS THE sha256 OF THE DUMP (.gsa) THAT YtcpabkfoalhldaaProg.lean LOADS. Nothing in Lean hashes anything: it is a label: what it is worth is what the hold of that sum in a sandbox is worth. -/
noncomputable def Try.pinned : Pinned := { name := "ytcpabkfoalhldaa", sum := "058e178cfc0c08d27c372112fcf2cb9a4258f3f73f8f6cf048a8a4a9b858ff28", checked := Try.checked }
namespace Rows
def none {H : Type} : Left H := { results := [], args := [] }

/-- 'laws.FnApartWrites': WHATEVER THE INPUT: true; the input reads as it did. -/
def fnApartWritesSpec : ChangeSpec := { name := "fnApartWrites", fn := fun _ => fun
  | [d] => { results := [.lit (.bool true)], args := [d] }
  | _ => none }
def fnApartWritesRow : OpenClaim := { program := "ytcpabkfoalhldaa", sum := "058e178cfc0c08d27c372112fcf2cb9a4258f3f73f8f6cf048a8a4a9b858ff28", func := "loop.example/equerry/laws.FnApartWrites", spec := "fnApartWrites", inPlace := ["slices.overlaps[int]"], unfollowed := true, recurses := true, apart := false }
def FnApartWritesSaid : Prop := fnApartWritesRow.holds Try.pinned (OpenSpec.ofChange fnApartWritesSpec)

/-- ITS FALSE NEIGHBOUR: 'it returns false'. Refute it at one input. -/
def fnApartWritesWrong : ChangeSpec := { name := "fnApartWrites", fn := fun _ => fun
  | [d] => { results := [.lit (.bool false)], args := [d] }
  | _ => none }
def FnApartWritesWrongFalsely : Prop := fnApartWritesRow.holds Try.pinned (OpenSpec.ofChange fnApartWritesWrong)

/-- 'laws.FnApartReads': WHATEVER THE INPUT: true; the input reads as it did. -/
def fnApartReadsSpec : ChangeSpec := { name := "fnApartReads", fn := fun _ => fun
  | [d] => { results := [.lit (.bool true)], args := [d] }
  | _ => none }
def fnApartReadsRow : OpenClaim := { program := "ytcpabkfoalhldaa", sum := "058e178cfc0c08d27c372112fcf2cb9a4258f3f73f8f6cf048a8a4a9b858ff28", func := "loop.example/equerry/laws.FnApartReads", spec := "fnApartReads", inPlace := ["slices.overlaps[int]"], unfollowed := true, recurses := true, apart := false }
def FnApartReadsSaid : Prop := fnApartReadsRow.holds Try.pinned (OpenSpec.ofChange fnApartReadsSpec)

/-- ITS FALSE NEIGHBOUR: 'it returns false'. Refute it at one input. -/
def fnApartReadsWrong : ChangeSpec := { name := "fnApartReads", fn := fun _ => fun
  | [d] => { results := [.lit (.bool false)], args := [d] }
  | _ => none }
def FnApartReadsWrongFalsely : Prop := fnApartReadsRow.holds Try.pinned (OpenSpec.ofChange fnApartReadsWrong)

/-- 'laws.FnApartMain': WHATEVER THE INPUT: true; the input reads as it did. -/
def fnApartMainSpec : ChangeSpec := { name := "fnApartMain", fn := fun _ => fun
  | [d] => { results := [.lit (.bool true)], args := [d] }
  | _ => none }
def fnApartMainRow : OpenClaim := { program := "ytcpabkfoalhldaa", sum := "058e178cfc0c08d27c372112fcf2cb9a4258f3f73f8f6cf048a8a4a9b858ff28", func := "loop.example/equerry/laws.FnApartMain", spec := "fnApartMain", inPlace := ["slices.overlaps[int]"], unfollowed := true, recurses := true, apart := false }
def FnApartMainSaid : Prop := fnApartMainRow.holds Try.pinned (OpenSpec.ofChange fnApartMainSpec)

/-- ITS FALSE NEIGHBOUR: 'it returns false'. Refute it at one input. -/
def fnApartMainWrong : ChangeSpec := { name := "fnApartMain", fn := fun _ => fun
  | [d] => { results := [.lit (.bool false)], args := [d] }
  | _ => none }
def FnApartMainWrongFalsely : Prop := fnApartMainRow.holds Try.pinned (OpenSpec.ofChange fnApartMainWrong)

/-- 'laws.FnExactApartWrites': WHATEVER THE INPUT: true; the input reads as it did. -/
def fnExactApartWritesSpec : ChangeSpec := { name := "fnExactApartWrites", fn := fun _ => fun
  | [d1, d2] => { results := [.lit (.bool true)], args := [d1, d2] }
  | _ => none }
def fnExactApartWritesRow : OpenClaim := { program := "ytcpabkfoalhldaa", sum := "058e178cfc0c08d27c372112fcf2cb9a4258f3f73f8f6cf048a8a4a9b858ff28", func := "loop.example/equerry/laws.FnExactApartWrites", spec := "fnExactApartWrites", inPlace := ["slices.overlaps[int]"], unfollowed := true, recurses := true, apart := false }
def FnExactApartWritesSaid : Prop := fnExactApartWritesRow.holds Try.pinned (OpenSpec.ofChange fnExactApartWritesSpec)

/-- ITS FALSE NEIGHBOUR: 'it returns false'. Refute it at one input. -/
def fnExactApartWritesWrong : ChangeSpec := { name := "fnExactApartWrites", fn := fun _ => fun
  | [d1, d2] => { results := [.lit (.bool false)], args := [d1, d2] }
  | _ => none }
def FnExactApartWritesWrongFalsely : Prop := fnExactApartWritesRow.holds Try.pinned (OpenSpec.ofChange fnExactApartWritesWrong)

/-- 'laws.FnApartOk': WHATEVER THE INPUT: true; the input reads as it did. -/
def fnApartOkSpec : ChangeSpec := { name := "fnApartOk", fn := fun _ => fun
  | [d] => { results := [.lit (.bool true)], args := [d] }
  | _ => none }
def fnApartOkRow : OpenClaim := { program := "ytcpabkfoalhldaa", sum := "058e178cfc0c08d27c372112fcf2cb9a4258f3f73f8f6cf048a8a4a9b858ff28", func := "loop.example/equerry/laws.FnApartOk", spec := "fnApartOk", inPlace := ["slices.overlaps[int]"], unfollowed := true, recurses := true, apart := false }
def FnApartOkSaid : Prop := fnApartOkRow.holds Try.pinned (OpenSpec.ofChange fnApartOkSpec)

/-- ITS FALSE NEIGHBOUR: 'it returns false'. Refute it at one input. -/
def fnApartOkWrong : ChangeSpec := { name := "fnApartOk", fn := fun _ => fun
  | [d] => { results := [.lit (.bool false)], args := [d] }
  | _ => none }
def FnApartOkWrongFalsely : Prop := fnApartOkRow.holds Try.pinned (OpenSpec.ofChange fnApartOkWrong)

/-- 'laws.FnExactApartReads': WHATEVER THE INPUT: true; the input reads as it did. -/
def fnExactApartReadsSpec : ChangeSpec := { name := "fnExactApartReads", fn := fun _ => fun
  | [d1, d2] => { results := [.lit (.bool true)], args := [d1, d2] }
  | _ => none }
def fnExactApartReadsRow : OpenClaim := { program := "ytcpabkfoalhldaa", sum := "058e178cfc0c08d27c372112fcf2cb9a4258f3f73f8f6cf048a8a4a9b858ff28", func := "loop.example/equerry/laws.FnExactApartReads", spec := "fnExactApartReads", inPlace := ["slices.overlaps[int]"], unfollowed := true, recurses := true, apart := false }
def FnExactApartReadsSaid : Prop := fnExactApartReadsRow.holds Try.pinned (OpenSpec.ofChange fnExactApartReadsSpec)

/-- ITS FALSE NEIGHBOUR: 'it returns false'. Refute it at one input. -/
def fnExactApartReadsWrong : ChangeSpec := { name := "fnExactApartReads", fn := fun _ => fun
  | [d1, d2] => { results := [.lit (.bool false)], args := [d1, d2] }
  | _ => none }
def FnExactApartReadsWrongFalsely : Prop := fnExactApartReadsRow.holds Try.pinned (OpenSpec.ofChange fnExactApartReadsWrong)

/-- 'laws.FnOneRun': WHATEVER THE INPUT: true; the input reads as it did. -/
def fnOneRunSpec : ChangeSpec := { name := "fnOneRun", fn := fun _ => fun
  | [d] => { results := [.lit (.bool true)], args := [d] }
  | _ => none }
def fnOneRunRow : OpenClaim := { program := "ytcpabkfoalhldaa", sum := "058e178cfc0c08d27c372112fcf2cb9a4258f3f73f8f6cf048a8a4a9b858ff28", func := "loop.example/equerry/laws.FnOneRun", spec := "fnOneRun", inPlace := ["slices.overlaps[int]"], unfollowed := true, recurses := true, apart := false }
def FnOneRunSaid : Prop := fnOneRunRow.holds Try.pinned (OpenSpec.ofChange fnOneRunSpec)

/-- ITS FALSE NEIGHBOUR: 'it returns false'. Refute it at one input. -/
def fnOneRunWrong : ChangeSpec := { name := "fnOneRun", fn := fun _ => fun
  | [d] => { results := [.lit (.bool false)], args := [d] }
  | _ => none }
def FnOneRunWrongFalsely : Prop := fnOneRunRow.holds Try.pinned (OpenSpec.ofChange fnOneRunWrong)

/- THE SECOND FORM. 'bulk': how many values and letters a reading holds, each counted each time it is reached (what is shared counts as often as it is met; a slice's spare places count too). A statement '..UptoSaid' is the law's where the arguments, and the package variables that the reading takes, are together of bulk at most 1048576: NARROWER than '..Said'. Prove '..Said' where nothing that the law and all that it calls make is longer than what came in: it says more and counts as full. Else prove '..UptoSaid'. A law counts once. -/
mutual
def uptoBulk {H : Type} : DataW H → Nat
  | .lit (.string bytes) => bytes.length + 1
  | .lit _ => 1
  | .nil => 1
  | .ptr d => uptoBulk d + 1
  | .slice elems spare => uptoBulkAll elems + uptoBulkAll spare + 1
  | .agg parts => uptoBulkAll parts + 1
  | .iface _ d => uptoBulk d + 1
  | .map entries => uptoBulkEntries entries + 1
  | .held _ => 1
def uptoBulkAll {H : Type} : List (DataW H) → Nat
  | [] => 0
  | d :: r => uptoBulk d + uptoBulkAll r
def uptoBulkEntries {H : Type} : List (Lit × DataW H) → Nat
  | [] => 0
  | x :: r => uptoBulkEntry x + uptoBulkEntries r
def uptoBulkEntry {H : Type} : Lit × DataW H → Nat
  | (.string bytes, d) => bytes.length + uptoBulk d + 1
  | (_, d) => uptoBulk d + 1
 end
def uptoSmall : (H : Type) → List (DataW H) → Bool := fun _ ds => decide (uptoBulkAll ds ≤ 1048576)
def OpenSpec.upto (s : _root_.Go.ChangeSpec) : _root_.Go.OpenSpec := { _root_.Go.OpenSpec.ofChange s with cond := some uptoSmall }

/-- 'laws.FnApartWrites', WHERE WHAT IT READS IS OF BULK AT MOST 1048576: true; the input reads as it did. -/
def fnApartWritesUptoRow : OpenClaim := { program := "ytcpabkfoalhldaa", sum := "058e178cfc0c08d27c372112fcf2cb9a4258f3f73f8f6cf048a8a4a9b858ff28", func := "loop.example/equerry/laws.FnApartWrites", spec := "fnApartWrites", inPlace := ["slices.overlaps[int]"], unfollowed := true, recurses := true, apart := false, narrowed := true }
def FnApartWritesUptoSaid : Prop := fnApartWritesUptoRow.holds Try.pinned (OpenSpec.upto fnApartWritesSpec)

/-- 'laws.FnApartReads', WHERE WHAT IT READS IS OF BULK AT MOST 1048576: true; the input reads as it did. -/
def fnApartReadsUptoRow : OpenClaim := { program := "ytcpabkfoalhldaa", sum := "058e178cfc0c08d27c372112fcf2cb9a4258f3f73f8f6cf048a8a4a9b858ff28", func := "loop.example/equerry/laws.FnApartReads", spec := "fnApartReads", inPlace := ["slices.overlaps[int]"], unfollowed := true, recurses := true, apart := false, narrowed := true }
def FnApartReadsUptoSaid : Prop := fnApartReadsUptoRow.holds Try.pinned (OpenSpec.upto fnApartReadsSpec)

/-- 'laws.FnApartMain', WHERE WHAT IT READS IS OF BULK AT MOST 1048576: true; the input reads as it did. -/
def fnApartMainUptoRow : OpenClaim := { program := "ytcpabkfoalhldaa", sum := "058e178cfc0c08d27c372112fcf2cb9a4258f3f73f8f6cf048a8a4a9b858ff28", func := "loop.example/equerry/laws.FnApartMain", spec := "fnApartMain", inPlace := ["slices.overlaps[int]"], unfollowed := true, recurses := true, apart := false, narrowed := true }
def FnApartMainUptoSaid : Prop := fnApartMainUptoRow.holds Try.pinned (OpenSpec.upto fnApartMainSpec)

/-- 'laws.FnExactApartWrites', WHERE WHAT IT READS IS OF BULK AT MOST 1048576: true; the input reads as it did. -/
def fnExactApartWritesUptoRow : OpenClaim := { program := "ytcpabkfoalhldaa", sum := "058e178cfc0c08d27c372112fcf2cb9a4258f3f73f8f6cf048a8a4a9b858ff28", func := "loop.example/equerry/laws.FnExactApartWrites", spec := "fnExactApartWrites", inPlace := ["slices.overlaps[int]"], unfollowed := true, recurses := true, apart := false, narrowed := true }
def FnExactApartWritesUptoSaid : Prop := fnExactApartWritesUptoRow.holds Try.pinned (OpenSpec.upto fnExactApartWritesSpec)

/-- 'laws.FnApartOk', WHERE WHAT IT READS IS OF BULK AT MOST 1048576: true; the input reads as it did. -/
def fnApartOkUptoRow : OpenClaim := { program := "ytcpabkfoalhldaa", sum := "058e178cfc0c08d27c372112fcf2cb9a4258f3f73f8f6cf048a8a4a9b858ff28", func := "loop.example/equerry/laws.FnApartOk", spec := "fnApartOk", inPlace := ["slices.overlaps[int]"], unfollowed := true, recurses := true, apart := false, narrowed := true }
def FnApartOkUptoSaid : Prop := fnApartOkUptoRow.holds Try.pinned (OpenSpec.upto fnApartOkSpec)

/-- 'laws.FnExactApartReads', WHERE WHAT IT READS IS OF BULK AT MOST 1048576: true; the input reads as it did. -/
def fnExactApartReadsUptoRow : OpenClaim := { program := "ytcpabkfoalhldaa", sum := "058e178cfc0c08d27c372112fcf2cb9a4258f3f73f8f6cf048a8a4a9b858ff28", func := "loop.example/equerry/laws.FnExactApartReads", spec := "fnExactApartReads", inPlace := ["slices.overlaps[int]"], unfollowed := true, recurses := true, apart := false, narrowed := true }
def FnExactApartReadsUptoSaid : Prop := fnExactApartReadsUptoRow.holds Try.pinned (OpenSpec.upto fnExactApartReadsSpec)

/-- 'laws.FnOneRun', WHERE WHAT IT READS IS OF BULK AT MOST 1048576: true; the input reads as it did. -/
def fnOneRunUptoRow : OpenClaim := { program := "ytcpabkfoalhldaa", sum := "058e178cfc0c08d27c372112fcf2cb9a4258f3f73f8f6cf048a8a4a9b858ff28", func := "loop.example/equerry/laws.FnOneRun", spec := "fnOneRun", inPlace := ["slices.overlaps[int]"], unfollowed := true, recurses := true, apart := false, narrowed := true }
def FnOneRunUptoSaid : Prop := fnOneRunUptoRow.holds Try.pinned (OpenSpec.upto fnOneRunSpec)

end Rows
end Go.Proofs.Ytcpabkfoalhldaa
