/-
  No cell of these rows narrows 'for every input' (looked for: loops, veiled, ifaces, maps, wideKeys, modest, calm, conditions, laid).
  DERIVED. THE GIVEN ROWS OF THIS SEAT. 4 by the template 'for every input the law returns true; each argument reads behind the call as it read before'; 0 by the template 'total and deterministic' (their statements: YtjacjafmimgfcaaGreatTotals.lean).
  GIVEN WITH THE SEED: the statements are not yours to turn. If you find one false, say at which input.
  Laid BY PROGRAM, IN A SANDBOX (cutbox-rows.mjs): the forced cells as the released guide's own fill.sh prints them over the translation 6adc9f29ca932a01… (all of the seat's roots in one cut). By AI agents, Wed Nov 11 2026. No macro, syntax, notation, axiom, sorry.
-/
import Derived.Test.YtjacjafmimgfcaaGreatChecked
import GoSem.Claim
import GoSem.ClaimJoined
import GoSem.ClaimMapViews
import Derived.JoinedTies
import Derived.KernelRfl
namespace Go.Proofs.YtjacjafmimgfcaaGreat
/- THE CELL 'sum', in the pinned program and in every row, IS THE sha256 OF THE DUMP (.gsa) THAT YtjacjafmimgfcaaGreatProg.lean LOADS. Nothing in Lean hashes anything: it is a label: what it is worth is what the hold of that sum in a sandbox is worth. -/
noncomputable def Tryz.pinned : Pinned := { name := "ytjacjafmimgfcaagreat", sum := "6adc9f29ca932a0146e51623fe2bc73ef979000d65564d469a9b34abcc0336fd", checked := Tryz.checked }
namespace Rows
def none {H : Type} : Left H := { results := [], args := [] }

/-- 'laws.FnExactLogDo': WHATEVER THE INPUT: true; the input reads as it did. -/
def fnExactLogDoSpec : ChangeSpec := { name := "fnExactLogDo", fn := fun _ => fun
  | [d1, d2, d3] => { results := [.lit (.bool true)], args := [d1, d2, d3] }
  | _ => none }
def fnExactLogDoRow : OpenClaim := { program := "ytjacjafmimgfcaagreat", sum := "6adc9f29ca932a0146e51623fe2bc73ef979000d65564d469a9b34abcc0336fd", func := "loop.example/equerry/laws.FnExactLogDo", spec := "fnExactLogDo", unfollowed := true, recurses := true, apart := false }
def FnExactLogDoSaid : Prop := fnExactLogDoRow.holds Tryz.pinned (OpenSpec.ofChange fnExactLogDoSpec)

/-- ITS FALSE NEIGHBOUR: 'it returns false'. Refute it at one input. -/
def fnExactLogDoWrong : ChangeSpec := { name := "fnExactLogDo", fn := fun _ => fun
  | [d1, d2, d3] => { results := [.lit (.bool false)], args := [d1, d2, d3] }
  | _ => none }
def FnExactLogDoWrongFalsely : Prop := fnExactLogDoRow.holds Tryz.pinned (OpenSpec.ofChange fnExactLogDoWrong)

/-- 'laws.FnLogDo': WHATEVER THE INPUT: true; the input reads as it did. -/
def fnLogDoSpec : ChangeSpec := { name := "fnLogDo", fn := fun _ => fun
  | [d] => { results := [.lit (.bool true)], args := [d] }
  | _ => none }
def fnLogDoRow : OpenClaim := { program := "ytjacjafmimgfcaagreat", sum := "6adc9f29ca932a0146e51623fe2bc73ef979000d65564d469a9b34abcc0336fd", func := "loop.example/equerry/laws.FnLogDo", spec := "fnLogDo", unfollowed := true, recurses := true, apart := false }
def FnLogDoSaid : Prop := fnLogDoRow.holds Tryz.pinned (OpenSpec.ofChange fnLogDoSpec)

/-- ITS FALSE NEIGHBOUR: 'it returns false'. Refute it at one input. -/
def fnLogDoWrong : ChangeSpec := { name := "fnLogDo", fn := fun _ => fun
  | [d] => { results := [.lit (.bool false)], args := [d] }
  | _ => none }
def FnLogDoWrongFalsely : Prop := fnLogDoRow.holds Tryz.pinned (OpenSpec.ofChange fnLogDoWrong)

/-- 'laws.FnLogDoNone': WHATEVER THE INPUT: true; the input reads as it did. -/
def fnLogDoNoneSpec : ChangeSpec := { name := "fnLogDoNone", fn := fun _ => fun
  | [d] => { results := [.lit (.bool true)], args := [d] }
  | _ => none }
def fnLogDoNoneRow : OpenClaim := { program := "ytjacjafmimgfcaagreat", sum := "6adc9f29ca932a0146e51623fe2bc73ef979000d65564d469a9b34abcc0336fd", func := "loop.example/equerry/laws.FnLogDoNone", spec := "fnLogDoNone", unfollowed := true, recurses := true, apart := false }
def FnLogDoNoneSaid : Prop := fnLogDoNoneRow.holds Tryz.pinned (OpenSpec.ofChange fnLogDoNoneSpec)

/-- ITS FALSE NEIGHBOUR: 'it returns false'. Refute it at one input. -/
def fnLogDoNoneWrong : ChangeSpec := { name := "fnLogDoNone", fn := fun _ => fun
  | [d] => { results := [.lit (.bool false)], args := [d] }
  | _ => none }
def FnLogDoNoneWrongFalsely : Prop := fnLogDoNoneRow.holds Tryz.pinned (OpenSpec.ofChange fnLogDoNoneWrong)

/-- 'laws.FnLogDoBad': WHATEVER THE INPUT: true; the input reads as it did. -/
def fnLogDoBadSpec : ChangeSpec := { name := "fnLogDoBad", fn := fun _ => fun
  | [d] => { results := [.lit (.bool true)], args := [d] }
  | _ => none }
def fnLogDoBadRow : OpenClaim := { program := "ytjacjafmimgfcaagreat", sum := "6adc9f29ca932a0146e51623fe2bc73ef979000d65564d469a9b34abcc0336fd", func := "loop.example/equerry/laws.FnLogDoBad", spec := "fnLogDoBad", unfollowed := true, recurses := true, apart := false }
def FnLogDoBadSaid : Prop := fnLogDoBadRow.holds Tryz.pinned (OpenSpec.ofChange fnLogDoBadSpec)

/-- ITS FALSE NEIGHBOUR: 'it returns false'. Refute it at one input. -/
def fnLogDoBadWrong : ChangeSpec := { name := "fnLogDoBad", fn := fun _ => fun
  | [d] => { results := [.lit (.bool false)], args := [d] }
  | _ => none }
def FnLogDoBadWrongFalsely : Prop := fnLogDoBadRow.holds Tryz.pinned (OpenSpec.ofChange fnLogDoBadWrong)

/- THE SECOND FORM. 'bulk': how many values and letters a reading holds, each counted each time it is reached (what is shared counts as often as it is met; a slice's spare places count too). A statement '..UptoSaid' is the law's where the arguments, and the package variables that the reading takes, are together of bulk at most 1048576: NARROWER than '..Said'. Prove '..Said' where nothing that the law and all that it calls make is longer than what came in: it says more and counts as full. Else prove '..UptoSaid'. A law counts once. -/
mutual
def uptoBulk {H : Type} : DataW H → Nat
  | .lit (.string bytes) => bytes.length + 1
  | .lit _ => 1
  | .nil => 1
  | .ptr d => uptoBulk d + 1
  | .slice elems spare => uptoBulkAll elems + uptoBulkAll spare + 1
  | .agg parts => uptoBulkAll parts + 1
  | .iface _ d => uptoBulk d + 1
  | .map entries => uptoBulkEntries entries + 1
  | .held _ => 1
def uptoBulkAll {H : Type} : List (DataW H) → Nat
  | [] => 0
  | d :: r => uptoBulk d + uptoBulkAll r
def uptoBulkEntries {H : Type} : List (Lit × DataW H) → Nat
  | [] => 0
  | x :: r => uptoBulkEntry x + uptoBulkEntries r
def uptoBulkEntry {H : Type} : Lit × DataW H → Nat
  | (.string bytes, d) => bytes.length + uptoBulk d + 1
  | (_, d) => uptoBulk d + 1
 end
def uptoSmall : (H : Type) → List (DataW H) → Bool := fun _ ds => decide (uptoBulkAll ds ≤ 1048576)
def OpenSpec.upto (s : _root_.Go.ChangeSpec) : _root_.Go.OpenSpec := { _root_.Go.OpenSpec.ofChange s with cond := some uptoSmall }

/-- 'laws.FnExactLogDo', WHERE WHAT IT READS IS OF BULK AT MOST 1048576: true; the input reads as it did. -/
def fnExactLogDoUptoRow : OpenClaim := { program := "ytjacjafmimgfcaagreat", sum := "6adc9f29ca932a0146e51623fe2bc73ef979000d65564d469a9b34abcc0336fd", func := "loop.example/equerry/laws.FnExactLogDo", spec := "fnExactLogDo", unfollowed := true, recurses := true, apart := false, narrowed := true }
def FnExactLogDoUptoSaid : Prop := fnExactLogDoUptoRow.holds Tryz.pinned (OpenSpec.upto fnExactLogDoSpec)

/-- 'laws.FnLogDo', WHERE WHAT IT READS IS OF BULK AT MOST 1048576: true; the input reads as it did. -/
def fnLogDoUptoRow : OpenClaim := { program := "ytjacjafmimgfcaagreat", sum := "6adc9f29ca932a0146e51623fe2bc73ef979000d65564d469a9b34abcc0336fd", func := "loop.example/equerry/laws.FnLogDo", spec := "fnLogDo", unfollowed := true, recurses := true, apart := false, narrowed := true }
def FnLogDoUptoSaid : Prop := fnLogDoUptoRow.holds Tryz.pinned (OpenSpec.upto fnLogDoSpec)

/-- 'laws.FnLogDoNone', WHERE WHAT IT READS IS OF BULK AT MOST 1048576: true; the input reads as it did. -/
def fnLogDoNoneUptoRow : OpenClaim := { program := "ytjacjafmimgfcaagreat", sum := "6adc9f29ca932a0146e51623fe2bc73ef979000d65564d469a9b34abcc0336fd", func := "loop.example/equerry/laws.FnLogDoNone", spec := "fnLogDoNone", unfollowed := true, recurses := true, apart := false, narrowed := true }
def FnLogDoNoneUptoSaid : Prop := fnLogDoNoneUptoRow.holds Tryz.pinned (OpenSpec.upto fnLogDoNoneSpec)

/-- 'laws.FnLogDoBad', WHERE WHAT IT READS IS OF BULK AT MOST 1048576: true; the input reads as it did. -/
def fnLogDoBadUptoRow : OpenClaim := { program := "ytjacjafmimgfcaagreat", sum := "6adc9f29ca932a0146e51623fe2bc73ef979000d65564d469a9b34abcc0336fd", func := "loop.example/equerry/laws.FnLogDoBad", spec := "fnLogDoBad", unfollowed := true, recurses := true, apart := false, narrowed := true }
def FnLogDoBadUptoSaid : Prop := fnLogDoBadUptoRow.holds Tryz.pinned (OpenSpec.upto fnLogDoBadSpec)

end Rows
end Go.Proofs.YtjacjafmimgfcaaGreat
