/-
  No cell of these rows narrows 'for every input' (looked for: loops, veiled, ifaces, maps, wideKeys, modest, calm, conditions, laid).
  DERIVED. THE GIVEN ROWS OF THIS SEAT. 4 by the template 'for every input the law returns true; each argument reads behind the call as it read before'; 0 by the template 'total and deterministic' (their statements: YtehgiijpmldiiaaTotals.lean).
  GIVEN WITH THE SEED: the statements are not yours to turn. If you find one false, say at which input.
  Laid BY PROGRAM, IN A SANDBOX (cutbox-rows.mjs): the forced cells as the released guide's own fill.sh prints them over the translation d64e0dd0865976eb… (all of the seat's roots in one cut). By AI agents, Wed Nov 11 2026. No macro, syntax, notation, axiom, sorry.
-/
import Derived.Test.YtehgiijpmldiiaaChecked
import GoSem.Claim
import GoSem.ClaimJoined
import GoSem.ClaimMapViews
import Derived.JoinedTies
import Derived.KernelRfl
namespace Go.Proofs.Ytehgiijpmldiiaa
/- THE CELL 'sum', in the pinned program and in every row, IS THE sha256 OF THE DUMP (.gsa) THAT YtehgiijpmldiiaaProg.lean LOADS. Nothing in Lean hashes anything: it is a label: what it is worth is what the hold of that sum in a sandbox is worth. -/
noncomputable def Try.pinned : Pinned := { name := "ytehgiijpmldiiaa", sum := "d64e0dd0865976eb7037576df555802b574b1bd5d479b3b5345d18a3f9f9ec6e", checked := Try.checked }
namespace Rows
def none {H : Type} : Left H := { results := [], args := [] }

/-- 'laws.FnOneFails': WHATEVER THE INPUT: true; the input reads as it did. -/
def fnOneFailsSpec : ChangeSpec := { name := "fnOneFails", fn := fun _ => fun
  | [d] => { results := [.lit (.bool true)], args := [d] }
  | _ => none }
def fnOneFailsRow : OpenClaim := { program := "ytehgiijpmldiiaa", sum := "d64e0dd0865976eb7037576df555802b574b1bd5d479b3b5345d18a3f9f9ec6e", func := "loop.example/equerry/laws.FnOneFails", spec := "fnOneFails", unfollowed := true, recurses := true, apart := false }
def FnOneFailsSaid : Prop := fnOneFailsRow.holds Try.pinned (OpenSpec.ofChange fnOneFailsSpec)

/-- ITS FALSE NEIGHBOUR: 'it returns false'. Refute it at one input. -/
def fnOneFailsWrong : ChangeSpec := { name := "fnOneFails", fn := fun _ => fun
  | [d] => { results := [.lit (.bool false)], args := [d] }
  | _ => none }
def FnOneFailsWrongFalsely : Prop := fnOneFailsRow.holds Try.pinned (OpenSpec.ofChange fnOneFailsWrong)

/-- 'laws.FnExactOneRun': WHATEVER THE INPUT: true; the input reads as it did. -/
def fnExactOneRunSpec : ChangeSpec := { name := "fnExactOneRun", fn := fun _ => fun
  | [d] => { results := [.lit (.bool true)], args := [d] }
  | _ => none }
def fnExactOneRunRow : OpenClaim := { program := "ytehgiijpmldiiaa", sum := "d64e0dd0865976eb7037576df555802b574b1bd5d479b3b5345d18a3f9f9ec6e", func := "loop.example/equerry/laws.FnExactOneRun", spec := "fnExactOneRun", unfollowed := true, recurses := true, apart := false }
def FnExactOneRunSaid : Prop := fnExactOneRunRow.holds Try.pinned (OpenSpec.ofChange fnExactOneRunSpec)

/-- ITS FALSE NEIGHBOUR: 'it returns false'. Refute it at one input. -/
def fnExactOneRunWrong : ChangeSpec := { name := "fnExactOneRun", fn := fun _ => fun
  | [d] => { results := [.lit (.bool false)], args := [d] }
  | _ => none }
def FnExactOneRunWrongFalsely : Prop := fnExactOneRunRow.holds Try.pinned (OpenSpec.ofChange fnExactOneRunWrong)

/-- 'laws.FnExactApartOk': WHATEVER THE INPUT: true; the input reads as it did. -/
def fnExactApartOkSpec : ChangeSpec := { name := "fnExactApartOk", fn := fun _ => fun
  | [d] => { results := [.lit (.bool true)], args := [d] }
  | _ => none }
def fnExactApartOkRow : OpenClaim := { program := "ytehgiijpmldiiaa", sum := "d64e0dd0865976eb7037576df555802b574b1bd5d479b3b5345d18a3f9f9ec6e", func := "loop.example/equerry/laws.FnExactApartOk", spec := "fnExactApartOk", inPlace := ["slices.overlaps[int]"], unfollowed := true, recurses := true, apart := false }
def FnExactApartOkSaid : Prop := fnExactApartOkRow.holds Try.pinned (OpenSpec.ofChange fnExactApartOkSpec)

/-- ITS FALSE NEIGHBOUR: 'it returns false'. Refute it at one input. -/
def fnExactApartOkWrong : ChangeSpec := { name := "fnExactApartOk", fn := fun _ => fun
  | [d] => { results := [.lit (.bool false)], args := [d] }
  | _ => none }
def FnExactApartOkWrongFalsely : Prop := fnExactApartOkRow.holds Try.pinned (OpenSpec.ofChange fnExactApartOkWrong)

/-- 'laws.FnExactSeenOk': WHATEVER THE INPUT: true; the input reads as it did. -/
def fnExactSeenOkSpec : ChangeSpec := { name := "fnExactSeenOk", fn := fun _ => fun
  | [d1, d2, d3] => { results := [.lit (.bool true)], args := [d1, d2, d3] }
  | _ => none }
def fnExactSeenOkRow : OpenClaim := { program := "ytehgiijpmldiiaa", sum := "d64e0dd0865976eb7037576df555802b574b1bd5d479b3b5345d18a3f9f9ec6e", func := "loop.example/equerry/laws.FnExactSeenOk", spec := "fnExactSeenOk", unfollowed := true, recurses := true, apart := false }
def FnExactSeenOkSaid : Prop := fnExactSeenOkRow.holds Try.pinned (OpenSpec.ofChange fnExactSeenOkSpec)

/-- ITS FALSE NEIGHBOUR: 'it returns false'. Refute it at one input. -/
def fnExactSeenOkWrong : ChangeSpec := { name := "fnExactSeenOk", fn := fun _ => fun
  | [d1, d2, d3] => { results := [.lit (.bool false)], args := [d1, d2, d3] }
  | _ => none }
def FnExactSeenOkWrongFalsely : Prop := fnExactSeenOkRow.holds Try.pinned (OpenSpec.ofChange fnExactSeenOkWrong)

/- THE SECOND FORM. 'bulk': how many values and letters a reading holds, each counted each time it is reached (what is shared counts as often as it is met; a slice's spare places count too). A statement '..UptoSaid' is the law's where the arguments, and the package variables that the reading takes, are together of bulk at most 1048576: NARROWER than '..Said'. Prove '..Said' where nothing that the law and all that it calls make is longer than what came in: it says more and counts as full. Else prove '..UptoSaid'. A law counts once. -/
mutual
def uptoBulk {H : Type} : DataW H → Nat
  | .lit (.string bytes) => bytes.length + 1
  | .lit _ => 1
  | .nil => 1
  | .ptr d => uptoBulk d + 1
  | .slice elems spare => uptoBulkAll elems + uptoBulkAll spare + 1
  | .agg parts => uptoBulkAll parts + 1
  | .iface _ d => uptoBulk d + 1
  | .map entries => uptoBulkEntries entries + 1
  | .held _ => 1
def uptoBulkAll {H : Type} : List (DataW H) → Nat
  | [] => 0
  | d :: r => uptoBulk d + uptoBulkAll r
def uptoBulkEntries {H : Type} : List (Lit × DataW H) → Nat
  | [] => 0
  | x :: r => uptoBulkEntry x + uptoBulkEntries r
def uptoBulkEntry {H : Type} : Lit × DataW H → Nat
  | (.string bytes, d) => bytes.length + uptoBulk d + 1
  | (_, d) => uptoBulk d + 1
 end
def uptoSmall : (H : Type) → List (DataW H) → Bool := fun _ ds => decide (uptoBulkAll ds ≤ 1048576)
def OpenSpec.upto (s : _root_.Go.ChangeSpec) : _root_.Go.OpenSpec := { _root_.Go.OpenSpec.ofChange s with cond := some uptoSmall }

/-- 'laws.FnOneFails', WHERE WHAT IT READS IS OF BULK AT MOST 1048576: true; the input reads as it did. -/
def fnOneFailsUptoRow : OpenClaim := { program := "ytehgiijpmldiiaa", sum := "d64e0dd0865976eb7037576df555802b574b1bd5d479b3b5345d18a3f9f9ec6e", func := "loop.example/equerry/laws.FnOneFails", spec := "fnOneFails", unfollowed := true, recurses := true, apart := false, narrowed := true }
def FnOneFailsUptoSaid : Prop := fnOneFailsUptoRow.holds Try.pinned (OpenSpec.upto fnOneFailsSpec)

/-- 'laws.FnExactOneRun', WHERE WHAT IT READS IS OF BULK AT MOST 1048576: true; the input reads as it did. -/
def fnExactOneRunUptoRow : OpenClaim := { program := "ytehgiijpmldiiaa", sum := "d64e0dd0865976eb7037576df555802b574b1bd5d479b3b5345d18a3f9f9ec6e", func := "loop.example/equerry/laws.FnExactOneRun", spec := "fnExactOneRun", unfollowed := true, recurses := true, apart := false, narrowed := true }
def FnExactOneRunUptoSaid : Prop := fnExactOneRunUptoRow.holds Try.pinned (OpenSpec.upto fnExactOneRunSpec)

/-- 'laws.FnExactApartOk', WHERE WHAT IT READS IS OF BULK AT MOST 1048576: true; the input reads as it did. -/
def fnExactApartOkUptoRow : OpenClaim := { program := "ytehgiijpmldiiaa", sum := "d64e0dd0865976eb7037576df555802b574b1bd5d479b3b5345d18a3f9f9ec6e", func := "loop.example/equerry/laws.FnExactApartOk", spec := "fnExactApartOk", inPlace := ["slices.overlaps[int]"], unfollowed := true, recurses := true, apart := false, narrowed := true }
def FnExactApartOkUptoSaid : Prop := fnExactApartOkUptoRow.holds Try.pinned (OpenSpec.upto fnExactApartOkSpec)

/-- 'laws.FnExactSeenOk', WHERE WHAT IT READS IS OF BULK AT MOST 1048576: true; the input reads as it did. -/
def fnExactSeenOkUptoRow : OpenClaim := { program := "ytehgiijpmldiiaa", sum := "d64e0dd0865976eb7037576df555802b574b1bd5d479b3b5345d18a3f9f9ec6e", func := "loop.example/equerry/laws.FnExactSeenOk", spec := "fnExactSeenOk", unfollowed := true, recurses := true, apart := false, narrowed := true }
def FnExactSeenOkUptoSaid : Prop := fnExactSeenOkUptoRow.holds Try.pinned (OpenSpec.upto fnExactSeenOkSpec)

end Rows
end Go.Proofs.Ytehgiijpmldiiaa
