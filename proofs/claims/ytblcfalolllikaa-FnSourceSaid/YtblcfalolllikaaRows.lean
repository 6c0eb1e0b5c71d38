/-
  No cell of these rows narrows 'for every input' (looked for: loops, veiled, ifaces, maps, wideKeys, modest, calm, conditions, laid).
  DERIVED. THE GIVEN ROWS OF THIS SEAT. 5 by the template 'for every input the law returns true; each argument reads behind the call as it read before'; 0 by the template 'total and deterministic' (their statements: YtblcfalolllikaaTotals.lean).
  GIVEN WITH THE SEED: the statements are not yours to turn. If you find one false, say at which input.
  Laid BY PROGRAM, IN A SANDBOX (cutbox-rows.mjs): the forced cells as the released guide's own fill.sh prints them over the translation 8389fe1d6718e2c0… (all of the seat's roots in one cut). By AI agents, Wed Nov 11 2026. No macro, syntax, notation, axiom, sorry.
-/
import Derived.Test.YtblcfalolllikaaChecked
import GoSem.Claim
import GoSem.ClaimJoined
import GoSem.ClaimMapViews
import Derived.JoinedTies
import Derived.KernelRfl
namespace Go.Proofs.Ytblcfalolllikaa
/- THE CELL 'sum', in the pinned program and in every row, IS THE sha256 OF THE DUMP (.gsa) THAT YtblcfalolllikaaProg.lean LOADS. Nothing in Lean hashes anything: it is a label: what it is worth is what the hold of that sum in a sandbox is worth. -/
noncomputable def Try.pinned : Pinned := { name := "ytblcfalolllikaa", sum := "8389fe1d6718e2c00577ce7e1e05462bc0d2d3ddd4b3cbc10544adb991232075", checked := Try.checked }
namespace Rows
def none {H : Type} : Left H := { results := [], args := [] }

/-- 'laws.FnExactReadOpening': WHATEVER THE INPUT: true; the input reads as it did. -/
def fnExactReadOpeningSpec : ChangeSpec := { name := "fnExactReadOpening", fn := fun _ => fun
  | [d1, d2, d3] => { results := [.lit (.bool true)], args := [d1, d2, d3] }
  | _ => none }
def fnExactReadOpeningRow : OpenClaim := { program := "ytblcfalolllikaa", sum := "8389fe1d6718e2c00577ce7e1e05462bc0d2d3ddd4b3cbc10544adb991232075", func := "loop.example/g00348/laws.FnExactReadOpening", spec := "fnExactReadOpening", unfollowed := true, recurses := true, plainKeys := false, apart := false }
def FnExactReadOpeningSaid : Prop := fnExactReadOpeningRow.holds Try.pinned (OpenSpec.ofChange fnExactReadOpeningSpec)

/-- ITS FALSE NEIGHBOUR: 'it returns false'. Refute it at one input. -/
def fnExactReadOpeningWrong : ChangeSpec := { name := "fnExactReadOpening", fn := fun _ => fun
  | [d1, d2, d3] => { results := [.lit (.bool false)], args := [d1, d2, d3] }
  | _ => none }
def FnExactReadOpeningWrongFalsely : Prop := fnExactReadOpeningRow.holds Try.pinned (OpenSpec.ofChange fnExactReadOpeningWrong)

/-- 'laws.FnSource': WHATEVER THE INPUT: true; the input reads as it did. -/
def fnSourceSpec : ChangeSpec := { name := "fnSource", fn := fun _ => fun
  | [d1, d2] => { results := [.lit (.bool true)], args := [d1, d2] }
  | _ => none }
def fnSourceRow : OpenClaim := { program := "ytblcfalolllikaa", sum := "8389fe1d6718e2c00577ce7e1e05462bc0d2d3ddd4b3cbc10544adb991232075", func := "loop.example/g00348/laws.FnSource", spec := "fnSource", unfollowed := true, recurses := true, plainKeys := false, apart := false }
def FnSourceSaid : Prop := fnSourceRow.holds Try.pinned (OpenSpec.ofChange fnSourceSpec)

/-- ITS FALSE NEIGHBOUR: 'it returns false'. Refute it at one input. -/
def fnSourceWrong : ChangeSpec := { name := "fnSource", fn := fun _ => fun
  | [d1, d2] => { results := [.lit (.bool false)], args := [d1, d2] }
  | _ => none }
def FnSourceWrongFalsely : Prop := fnSourceRow.holds Try.pinned (OpenSpec.ofChange fnSourceWrong)

/-- 'laws.FnExactProofOK': WHATEVER THE INPUT: true; the input reads as it did. -/
def fnExactProofOKSpec : ChangeSpec := { name := "fnExactProofOK", fn := fun _ => fun
  | [d1, d2, d3] => { results := [.lit (.bool true)], args := [d1, d2, d3] }
  | _ => none }
def fnExactProofOKRow : OpenClaim := { program := "ytblcfalolllikaa", sum := "8389fe1d6718e2c00577ce7e1e05462bc0d2d3ddd4b3cbc10544adb991232075", func := "loop.example/g00348/laws.FnExactProofOK", spec := "fnExactProofOK", unfollowed := true, recurses := true, plainKeys := false, apart := false }
def FnExactProofOKSaid : Prop := fnExactProofOKRow.holds Try.pinned (OpenSpec.ofChange fnExactProofOKSpec)

/-- ITS FALSE NEIGHBOUR: 'it returns false'. Refute it at one input. -/
def fnExactProofOKWrong : ChangeSpec := { name := "fnExactProofOK", fn := fun _ => fun
  | [d1, d2, d3] => { results := [.lit (.bool false)], args := [d1, d2, d3] }
  | _ => none }
def FnExactProofOKWrongFalsely : Prop := fnExactProofOKRow.holds Try.pinned (OpenSpec.ofChange fnExactProofOKWrong)

/-- 'laws.FnExactStart': WHATEVER THE INPUT: true; the input reads as it did. -/
def fnExactStartSpec : ChangeSpec := { name := "fnExactStart", fn := fun _ => fun
  | [d1, d2, d3, d4] => { results := [.lit (.bool true)], args := [d1, d2, d3, d4] }
  | _ => none }
def fnExactStartRow : OpenClaim := { program := "ytblcfalolllikaa", sum := "8389fe1d6718e2c00577ce7e1e05462bc0d2d3ddd4b3cbc10544adb991232075", func := "loop.example/g00348/laws.FnExactStart", spec := "fnExactStart", unfollowed := true, recurses := true, plainKeys := false, apart := false }
def FnExactStartSaid : Prop := fnExactStartRow.holds Try.pinned (OpenSpec.ofChange fnExactStartSpec)

/-- ITS FALSE NEIGHBOUR: 'it returns false'. Refute it at one input. -/
def fnExactStartWrong : ChangeSpec := { name := "fnExactStart", fn := fun _ => fun
  | [d1, d2, d3, d4] => { results := [.lit (.bool false)], args := [d1, d2, d3, d4] }
  | _ => none }
def FnExactStartWrongFalsely : Prop := fnExactStartRow.holds Try.pinned (OpenSpec.ofChange fnExactStartWrong)

/-- 'laws.FnExactSystemOf': WHATEVER THE INPUT: true; the input reads as it did. -/
def fnExactSystemOfSpec : ChangeSpec := { name := "fnExactSystemOf", fn := fun _ => fun
  | [d] => { results := [.lit (.bool true)], args := [d] }
  | _ => none }
def fnExactSystemOfRow : OpenClaim := { program := "ytblcfalolllikaa", sum := "8389fe1d6718e2c00577ce7e1e05462bc0d2d3ddd4b3cbc10544adb991232075", func := "loop.example/g00348/laws.FnExactSystemOf", spec := "fnExactSystemOf", unfollowed := true, recurses := true, plainKeys := false, apart := false }
def FnExactSystemOfSaid : Prop := fnExactSystemOfRow.holds Try.pinned (OpenSpec.ofChange fnExactSystemOfSpec)

/-- ITS FALSE NEIGHBOUR: 'it returns false'. Refute it at one input. -/
def fnExactSystemOfWrong : ChangeSpec := { name := "fnExactSystemOf", fn := fun _ => fun
  | [d] => { results := [.lit (.bool false)], args := [d] }
  | _ => none }
def FnExactSystemOfWrongFalsely : Prop := fnExactSystemOfRow.holds Try.pinned (OpenSpec.ofChange fnExactSystemOfWrong)

/- THE SECOND FORM. 'bulk': how many values and letters a reading holds, each counted each time it is reached (what is shared counts as often as it is met; a slice's spare places count too). A statement '..UptoSaid' is the law's where the arguments, and the package variables that the reading takes, are together of bulk at most 1048576: NARROWER than '..Said'. Prove '..Said' where nothing that the law and all that it calls make is longer than what came in: it says more and counts as full. Else prove '..UptoSaid'. A law counts once. -/
mutual
def uptoBulk {H : Type} : DataW H → Nat
  | .lit (.string bytes) => bytes.length + 1
  | .lit _ => 1
  | .nil => 1
  | .ptr d => uptoBulk d + 1
  | .slice elems spare => uptoBulkAll elems + uptoBulkAll spare + 1
  | .agg parts => uptoBulkAll parts + 1
  | .iface _ d => uptoBulk d + 1
  | .map entries => uptoBulkEntries entries + 1
  | .held _ => 1
def uptoBulkAll {H : Type} : List (DataW H) → Nat
  | [] => 0
  | d :: r => uptoBulk d + uptoBulkAll r
def uptoBulkEntries {H : Type} : List (Lit × DataW H) → Nat
  | [] => 0
  | x :: r => uptoBulkEntry x + uptoBulkEntries r
def uptoBulkEntry {H : Type} : Lit × DataW H → Nat
  | (.string bytes, d) => bytes.length + uptoBulk d + 1
  | (_, d) => uptoBulk d + 1
 end
def uptoSmall : (H : Type) → List (DataW H) → Bool := fun _ ds => decide (uptoBulkAll ds ≤ 1048576)
def OpenSpec.upto (s : _root_.Go.ChangeSpec) : _root_.Go.OpenSpec := { _root_.Go.OpenSpec.ofChange s with cond := some uptoSmall }

/-- 'laws.FnExactReadOpening', WHERE WHAT IT READS IS OF BULK AT MOST 1048576: true; the input reads as it did. -/
def fnExactReadOpeningUptoRow : OpenClaim := { program := "ytblcfalolllikaa", sum := "8389fe1d6718e2c00577ce7e1e05462bc0d2d3ddd4b3cbc10544adb991232075", func := "loop.example/g00348/laws.FnExactReadOpening", spec := "fnExactReadOpening", unfollowed := true, recurses := true, plainKeys := false, apart := false, narrowed := true }
def FnExactReadOpeningUptoSaid : Prop := fnExactReadOpeningUptoRow.holds Try.pinned (OpenSpec.upto fnExactReadOpeningSpec)

/-- 'laws.FnSource', WHERE WHAT IT READS IS OF BULK AT MOST 1048576: true; the input reads as it did. -/
def fnSourceUptoRow : OpenClaim := { program := "ytblcfalolllikaa", sum := "8389fe1d6718e2c00577ce7e1e05462bc0d2d3ddd4b3cbc10544adb991232075", func := "loop.example/g00348/laws.FnSource", spec := "fnSource", unfollowed := true, recurses := true, plainKeys := false, apart := false, narrowed := true }
def FnSourceUptoSaid : Prop := fnSourceUptoRow.holds Try.pinned (OpenSpec.upto fnSourceSpec)

/-- 'laws.FnExactProofOK', WHERE WHAT IT READS IS OF BULK AT MOST 1048576: true; the input reads as it did. -/
def fnExactProofOKUptoRow : OpenClaim := { program := "ytblcfalolllikaa", sum := "8389fe1d6718e2c00577ce7e1e05462bc0d2d3ddd4b3cbc10544adb991232075", func := "loop.example/g00348/laws.FnExactProofOK", spec := "fnExactProofOK", unfollowed := true, recurses := true, plainKeys := false, apart := false, narrowed := true }
def FnExactProofOKUptoSaid : Prop := fnExactProofOKUptoRow.holds Try.pinned (OpenSpec.upto fnExactProofOKSpec)

/-- 'laws.FnExactStart', WHERE WHAT IT READS IS OF BULK AT MOST 1048576: true; the input reads as it did. -/
def fnExactStartUptoRow : OpenClaim := { program := "ytblcfalolllikaa", sum := "8389fe1d6718e2c00577ce7e1e05462bc0d2d3ddd4b3cbc10544adb991232075", func := "loop.example/g00348/laws.FnExactStart", spec := "fnExactStart", unfollowed := true, recurses := true, plainKeys := false, apart := false, narrowed := true }
def FnExactStartUptoSaid : Prop := fnExactStartUptoRow.holds Try.pinned (OpenSpec.upto fnExactStartSpec)

/-- 'laws.FnExactSystemOf', WHERE WHAT IT READS IS OF BULK AT MOST 1048576: true; the input reads as it did. -/
def fnExactSystemOfUptoRow : OpenClaim := { program := "ytblcfalolllikaa", sum := "8389fe1d6718e2c00577ce7e1e05462bc0d2d3ddd4b3cbc10544adb991232075", func := "loop.example/g00348/laws.FnExactSystemOf", spec := "fnExactSystemOf", unfollowed := true, recurses := true, plainKeys := false, apart := false, narrowed := true }
def FnExactSystemOfUptoSaid : Prop := fnExactSystemOfUptoRow.holds Try.pinned (OpenSpec.upto fnExactSystemOfSpec)

end Rows
end Go.Proofs.Ytblcfalolllikaa
