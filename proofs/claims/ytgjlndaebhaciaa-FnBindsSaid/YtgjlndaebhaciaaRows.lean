/-
  No cell of these rows narrows 'for every input' (looked for: loops, veiled, ifaces, maps, wideKeys, modest, calm, conditions, laid).
  DERIVED. THE GIVEN ROWS OF THIS SEAT. 4 by the template 'for every input the law returns true; each argument reads behind the call as it read before'; 0 by the template 'total and deterministic' (their statements: YtgjlndaebhaciaaTotals.lean).
  GIVEN WITH THE SEED: the statements are not yours to turn. If you find one false, say at which input.
  Laid BY PROGRAM, IN A SANDBOX (cutbox-rows.mjs): the forced cells as the released guide's own fill.sh prints them over the translation 51bc7f43bf0722af… (all of the seat's roots in one cut). By AI agents, Wed Nov 11 2026. No macro, syntax, notation, axiom, sorry.
-/
import Derived.Test.YtgjlndaebhaciaaChecked
import GoSem.Claim
import GoSem.ClaimJoined
import GoSem.ClaimMapViews
import Derived.JoinedTies
import Derived.KernelRfl
namespace Go.Proofs.Ytgjlndaebhaciaa
/- THE CELL 'sum', in the pinned program and in every row, IS THE sha256 OF THE DUMP (.gsa) THAT YtgjlndaebhaciaaProg.lean LOADS. Nothing in Lean hashes anything: it is a label: what it is worth is what the hold of that sum in a sandbox is worth. -/
noncomputable def Try.pinned : Pinned := { name := "ytgjlndaebhaciaa", sum := "51bc7f43bf0722af07aa6cb925d82a7d8f9eb273cc69578a0c2a7ab219aa6d0e", checked := Try.checked }
namespace Rows
def none {H : Type} : Left H := { results := [], args := [] }

/-- 'laws.FnExactSystemOf': WHATEVER THE INPUT: true; the input reads as it did. -/
def fnExactSystemOfSpec : ChangeSpec := { name := "fnExactSystemOf", fn := fun _ => fun
  | [d] => { results := [.lit (.bool true)], args := [d] }
  | _ => none }
def fnExactSystemOfRow : OpenClaim := { program := "ytgjlndaebhaciaa", sum := "51bc7f43bf0722af07aa6cb925d82a7d8f9eb273cc69578a0c2a7ab219aa6d0e", func := "loop.example/g00348/laws.FnExactSystemOf", spec := "fnExactSystemOf", unfollowed := true, recurses := true, plainKeys := false, apart := false }
def FnExactSystemOfSaid : Prop := fnExactSystemOfRow.holds Try.pinned (OpenSpec.ofChange fnExactSystemOfSpec)

/-- ITS FALSE NEIGHBOUR: 'it returns false'. Refute it at one input. -/
def fnExactSystemOfWrong : ChangeSpec := { name := "fnExactSystemOf", fn := fun _ => fun
  | [d] => { results := [.lit (.bool false)], args := [d] }
  | _ => none }
def FnExactSystemOfWrongFalsely : Prop := fnExactSystemOfRow.holds Try.pinned (OpenSpec.ofChange fnExactSystemOfWrong)

/-- 'laws.FnCircuit': WHATEVER THE INPUT: true; the input reads as it did. -/
def fnCircuitSpec : ChangeSpec := { name := "fnCircuit", fn := fun _ => fun
  | [d1, d2] => { results := [.lit (.bool true)], args := [d1, d2] }
  | _ => none }
def fnCircuitRow : OpenClaim := { program := "ytgjlndaebhaciaa", sum := "51bc7f43bf0722af07aa6cb925d82a7d8f9eb273cc69578a0c2a7ab219aa6d0e", func := "loop.example/g00348/laws.FnCircuit", spec := "fnCircuit", unfollowed := true, recurses := true, plainKeys := false, apart := false }
def FnCircuitSaid : Prop := fnCircuitRow.holds Try.pinned (OpenSpec.ofChange fnCircuitSpec)

/-- ITS FALSE NEIGHBOUR: 'it returns false'. Refute it at one input. -/
def fnCircuitWrong : ChangeSpec := { name := "fnCircuit", fn := fun _ => fun
  | [d1, d2] => { results := [.lit (.bool false)], args := [d1, d2] }
  | _ => none }
def FnCircuitWrongFalsely : Prop := fnCircuitRow.holds Try.pinned (OpenSpec.ofChange fnCircuitWrong)

/-- 'laws.FnBinds': WHATEVER THE INPUT: true; the input reads as it did. -/
def fnBindsSpec : ChangeSpec := { name := "fnBinds", fn := fun _ => fun
  | [d1, d2] => { results := [.lit (.bool true)], args := [d1, d2] }
  | _ => none }
def fnBindsRow : OpenClaim := { program := "ytgjlndaebhaciaa", sum := "51bc7f43bf0722af07aa6cb925d82a7d8f9eb273cc69578a0c2a7ab219aa6d0e", func := "loop.example/g00348/laws.FnBinds", spec := "fnBinds", unfollowed := true, recurses := true, plainKeys := false, apart := false }
def FnBindsSaid : Prop := fnBindsRow.holds Try.pinned (OpenSpec.ofChange fnBindsSpec)

/-- ITS FALSE NEIGHBOUR: 'it returns false'. Refute it at one input. -/
def fnBindsWrong : ChangeSpec := { name := "fnBinds", fn := fun _ => fun
  | [d1, d2] => { results := [.lit (.bool false)], args := [d1, d2] }
  | _ => none }
def FnBindsWrongFalsely : Prop := fnBindsRow.holds Try.pinned (OpenSpec.ofChange fnBindsWrong)

/-- 'laws.FnNtt': WHATEVER THE INPUT: true; the input reads as it did. -/
def fnNttSpec : ChangeSpec := { name := "fnNtt", fn := fun _ => fun
  | [d1, d2] => { results := [.lit (.bool true)], args := [d1, d2] }
  | _ => none }
def fnNttRow : OpenClaim := { program := "ytgjlndaebhaciaa", sum := "51bc7f43bf0722af07aa6cb925d82a7d8f9eb273cc69578a0c2a7ab219aa6d0e", func := "loop.example/g00348/laws.FnNtt", spec := "fnNtt", unfollowed := true, recurses := true, plainKeys := false, apart := false }
def FnNttSaid : Prop := fnNttRow.holds Try.pinned (OpenSpec.ofChange fnNttSpec)

/-- ITS FALSE NEIGHBOUR: 'it returns false'. Refute it at one input. -/
def fnNttWrong : ChangeSpec := { name := "fnNtt", fn := fun _ => fun
  | [d1, d2] => { results := [.lit (.bool false)], args := [d1, d2] }
  | _ => none }
def FnNttWrongFalsely : Prop := fnNttRow.holds Try.pinned (OpenSpec.ofChange fnNttWrong)

/- THE SECOND FORM. 'bulk': how many values and letters a reading holds, each counted each time it is reached (what is shared counts as often as it is met; a slice's spare places count too). A statement '..UptoSaid' is the law's where the arguments, and the package variables that the reading takes, are together of bulk at most 1048576: NARROWER than '..Said'. Prove '..Said' where nothing that the law and all that it calls make is longer than what came in: it says more and counts as full. Else prove '..UptoSaid'. A law counts once. -/
mutual
def uptoBulk {H : Type} : DataW H → Nat
  | .lit (.string bytes) => bytes.length + 1
  | .lit _ => 1
  | .nil => 1
  | .ptr d => uptoBulk d + 1
  | .slice elems spare => uptoBulkAll elems + uptoBulkAll spare + 1
  | .agg parts => uptoBulkAll parts + 1
  | .iface _ d => uptoBulk d + 1
  | .map entries => uptoBulkEntries entries + 1
  | .held _ => 1
def uptoBulkAll {H : Type} : List (DataW H) → Nat
  | [] => 0
  | d :: r => uptoBulk d + uptoBulkAll r
def uptoBulkEntries {H : Type} : List (Lit × DataW H) → Nat
  | [] => 0
  | x :: r => uptoBulkEntry x + uptoBulkEntries r
def uptoBulkEntry {H : Type} : Lit × DataW H → Nat
  | (.string bytes, d) => bytes.length + uptoBulk d + 1
  | (_, d) => uptoBulk d + 1
 end
def uptoSmall : (H : Type) → List (DataW H) → Bool := fun _ ds => decide (uptoBulkAll ds ≤ 1048576)
def OpenSpec.upto (s : _root_.Go.ChangeSpec) : _root_.Go.OpenSpec := { _root_.Go.OpenSpec.ofChange s with cond := some uptoSmall }

/-- 'laws.FnExactSystemOf', WHERE WHAT IT READS IS OF BULK AT MOST 1048576: true; the input reads as it did. -/
def fnExactSystemOfUptoRow : OpenClaim := { program := "ytgjlndaebhaciaa", sum := "51bc7f43bf0722af07aa6cb925d82a7d8f9eb273cc69578a0c2a7ab219aa6d0e", func := "loop.example/g00348/laws.FnExactSystemOf", spec := "fnExactSystemOf", unfollowed := true, recurses := true, plainKeys := false, apart := false, narrowed := true }
def FnExactSystemOfUptoSaid : Prop := fnExactSystemOfUptoRow.holds Try.pinned (OpenSpec.upto fnExactSystemOfSpec)

/-- 'laws.FnCircuit', WHERE WHAT IT READS IS OF BULK AT MOST 1048576: true; the input reads as it did. -/
def fnCircuitUptoRow : OpenClaim := { program := "ytgjlndaebhaciaa", sum := "51bc7f43bf0722af07aa6cb925d82a7d8f9eb273cc69578a0c2a7ab219aa6d0e", func := "loop.example/g00348/laws.FnCircuit", spec := "fnCircuit", unfollowed := true, recurses := true, plainKeys := false, apart := false, narrowed := true }
def FnCircuitUptoSaid : Prop := fnCircuitUptoRow.holds Try.pinned (OpenSpec.upto fnCircuitSpec)

/-- 'laws.FnBinds', WHERE WHAT IT READS IS OF BULK AT MOST 1048576: true; the input reads as it did. -/
def fnBindsUptoRow : OpenClaim := { program := "ytgjlndaebhaciaa", sum := "51bc7f43bf0722af07aa6cb925d82a7d8f9eb273cc69578a0c2a7ab219aa6d0e", func := "loop.example/g00348/laws.FnBinds", spec := "fnBinds", unfollowed := true, recurses := true, plainKeys := false, apart := false, narrowed := true }
def FnBindsUptoSaid : Prop := fnBindsUptoRow.holds Try.pinned (OpenSpec.upto fnBindsSpec)

/-- 'laws.FnNtt', WHERE WHAT IT READS IS OF BULK AT MOST 1048576: true; the input reads as it did. -/
def fnNttUptoRow : OpenClaim := { program := "ytgjlndaebhaciaa", sum := "51bc7f43bf0722af07aa6cb925d82a7d8f9eb273cc69578a0c2a7ab219aa6d0e", func := "loop.example/g00348/laws.FnNtt", spec := "fnNtt", unfollowed := true, recurses := true, plainKeys := false, apart := false, narrowed := true }
def FnNttUptoSaid : Prop := fnNttUptoRow.holds Try.pinned (OpenSpec.upto fnNttSpec)

end Rows
end Go.Proofs.Ytgjlndaebhaciaa
