/-
  No cell of these rows narrows 'for every input' (looked for: loops, veiled, ifaces, maps, wideKeys, modest, calm, conditions, laid).
  DERIVED. THE GIVEN ROWS OF THIS SEAT. 8 by the template 'for every input the law returns true; each argument reads behind the call as it read before'; 0 by the template 'total and deterministic' (their statements: YtdnkignjanfikaaGreatTotals.lean).
  GIVEN WITH THE SEED: the statements are not yours to turn. If you find one false, say at which input.
  Laid BY PROGRAM, IN A SANDBOX (cutbox-rows.mjs): the forced cells as the released guide's own fill.sh prints them over the translation a4f7ebefe156d2dc… (all of the seat's roots in one cut). By AI agents, Wed Nov 11 2026. No macro, syntax, notation, axiom, sorry.
-/
import Derived.Test.YtdnkignjanfikaaGreatChecked
import GoSem.Claim
import GoSem.ClaimJoined
import GoSem.ClaimMapViews
import Derived.JoinedTies
import Derived.KernelRfl
namespace Go.Proofs.YtdnkignjanfikaaGreat
/- THE CELL 'sum', in the pinned program and in every row, IS THE sha256 OF THE DUMP (.gsa) THAT YtdnkignjanfikaaGreatProg.lean LOADS. Nothing in Lean hashes anything: it is a label: what it is worth is what the hold of that sum in a sandbox is worth. -/
noncomputable def Tryz.pinned : Pinned := { name := "ytdnkignjanfikaagreat", sum := "a4f7ebefe156d2dcc7c03dd7085dc5c972ce9a23accb3db4151147aca20b5512", checked := Tryz.checked }
namespace Rows
def none {H : Type} : Left H := { results := [], args := [] }

/-- 'laws.FnTop': WHATEVER THE INPUT: true; the input reads as it did. -/
def fnTopSpec : ChangeSpec := { name := "fnTop", fn := fun _ => fun
  | [d1, d2] => { results := [.lit (.bool true)], args := [d1, d2] }
  | _ => none }
def fnTopRow : OpenClaim := { program := "ytdnkignjanfikaagreat", sum := "a4f7ebefe156d2dcc7c03dd7085dc5c972ce9a23accb3db4151147aca20b5512", func := "loop.example/g00348/laws.FnTop", spec := "fnTop", unfollowed := true, recurses := true, plainKeys := false, apart := false }
def FnTopSaid : Prop := fnTopRow.holds Tryz.pinned (OpenSpec.ofChange fnTopSpec)

/-- ITS FALSE NEIGHBOUR: 'it returns false'. Refute it at one input. -/
def fnTopWrong : ChangeSpec := { name := "fnTop", fn := fun _ => fun
  | [d1, d2] => { results := [.lit (.bool false)], args := [d1, d2] }
  | _ => none }
def FnTopWrongFalsely : Prop := fnTopRow.holds Tryz.pinned (OpenSpec.ofChange fnTopWrong)

/-- 'laws.FnOpenBent': WHATEVER THE INPUT: true; the input reads as it did. -/
def fnOpenBentSpec : ChangeSpec := { name := "fnOpenBent", fn := fun _ => fun
  | [d1, d2] => { results := [.lit (.bool true)], args := [d1, d2] }
  | _ => none }
def fnOpenBentRow : OpenClaim := { program := "ytdnkignjanfikaagreat", sum := "a4f7ebefe156d2dcc7c03dd7085dc5c972ce9a23accb3db4151147aca20b5512", func := "loop.example/g00348/laws.FnOpenBent", spec := "fnOpenBent", unfollowed := true, recurses := true, plainKeys := false, apart := false }
def FnOpenBentSaid : Prop := fnOpenBentRow.holds Tryz.pinned (OpenSpec.ofChange fnOpenBentSpec)

/-- ITS FALSE NEIGHBOUR: 'it returns false'. Refute it at one input. -/
def fnOpenBentWrong : ChangeSpec := { name := "fnOpenBent", fn := fun _ => fun
  | [d1, d2] => { results := [.lit (.bool false)], args := [d1, d2] }
  | _ => none }
def FnOpenBentWrongFalsely : Prop := fnOpenBentRow.holds Tryz.pinned (OpenSpec.ofChange fnOpenBentWrong)

/-- 'laws.FnUnsatisfied': WHATEVER THE INPUT: true; the input reads as it did. -/
def fnUnsatisfiedSpec : ChangeSpec := { name := "fnUnsatisfied", fn := fun _ => fun
  | [d1, d2] => { results := [.lit (.bool true)], args := [d1, d2] }
  | _ => none }
def fnUnsatisfiedRow : OpenClaim := { program := "ytdnkignjanfikaagreat", sum := "a4f7ebefe156d2dcc7c03dd7085dc5c972ce9a23accb3db4151147aca20b5512", func := "loop.example/g00348/laws.FnUnsatisfied", spec := "fnUnsatisfied", unfollowed := true, recurses := true, plainKeys := false, apart := false }
def FnUnsatisfiedSaid : Prop := fnUnsatisfiedRow.holds Tryz.pinned (OpenSpec.ofChange fnUnsatisfiedSpec)

/-- ITS FALSE NEIGHBOUR: 'it returns false'. Refute it at one input. -/
def fnUnsatisfiedWrong : ChangeSpec := { name := "fnUnsatisfied", fn := fun _ => fun
  | [d1, d2] => { results := [.lit (.bool false)], args := [d1, d2] }
  | _ => none }
def FnUnsatisfiedWrongFalsely : Prop := fnUnsatisfiedRow.holds Tryz.pinned (OpenSpec.ofChange fnUnsatisfiedWrong)

/-- 'laws.FnBytesLie': WHATEVER THE INPUT: true; the input reads as it did. -/
def fnBytesLieSpec : ChangeSpec := { name := "fnBytesLie", fn := fun _ => fun
  | [d1, d2] => { results := [.lit (.bool true)], args := [d1, d2] }
  | _ => none }
def fnBytesLieRow : OpenClaim := { program := "ytdnkignjanfikaagreat", sum := "a4f7ebefe156d2dcc7c03dd7085dc5c972ce9a23accb3db4151147aca20b5512", func := "loop.example/g00348/laws.FnBytesLie", spec := "fnBytesLie", unfollowed := true, recurses := true, plainKeys := false, apart := false }
def FnBytesLieSaid : Prop := fnBytesLieRow.holds Tryz.pinned (OpenSpec.ofChange fnBytesLieSpec)

/-- ITS FALSE NEIGHBOUR: 'it returns false'. Refute it at one input. -/
def fnBytesLieWrong : ChangeSpec := { name := "fnBytesLie", fn := fun _ => fun
  | [d1, d2] => { results := [.lit (.bool false)], args := [d1, d2] }
  | _ => none }
def FnBytesLieWrongFalsely : Prop := fnBytesLieRow.holds Tryz.pinned (OpenSpec.ofChange fnBytesLieWrong)

/-- 'laws.FnExactVerifyCircuit': WHATEVER THE INPUT: true; the input reads as it did. -/
def fnExactVerifyCircuitSpec : ChangeSpec := { name := "fnExactVerifyCircuit", fn := fun _ => fun
  | [d1, d2, d3, d4, d5] => { results := [.lit (.bool true)], args := [d1, d2, d3, d4, d5] }
  | _ => none }
def fnExactVerifyCircuitRow : OpenClaim := { program := "ytdnkignjanfikaagreat", sum := "a4f7ebefe156d2dcc7c03dd7085dc5c972ce9a23accb3db4151147aca20b5512", func := "loop.example/g00348/laws.FnExactVerifyCircuit", spec := "fnExactVerifyCircuit", unfollowed := true, recurses := true, plainKeys := false, apart := false }
def FnExactVerifyCircuitSaid : Prop := fnExactVerifyCircuitRow.holds Tryz.pinned (OpenSpec.ofChange fnExactVerifyCircuitSpec)

/-- ITS FALSE NEIGHBOUR: 'it returns false'. Refute it at one input. -/
def fnExactVerifyCircuitWrong : ChangeSpec := { name := "fnExactVerifyCircuit", fn := fun _ => fun
  | [d1, d2, d3, d4, d5] => { results := [.lit (.bool false)], args := [d1, d2, d3, d4, d5] }
  | _ => none }
def FnExactVerifyCircuitWrongFalsely : Prop := fnExactVerifyCircuitRow.holds Tryz.pinned (OpenSpec.ofChange fnExactVerifyCircuitWrong)

/-- 'laws.FnProofBytes': WHATEVER THE INPUT: true; the input reads as it did. -/
def fnProofBytesSpec : ChangeSpec := { name := "fnProofBytes", fn := fun _ => fun
  | [d1, d2] => { results := [.lit (.bool true)], args := [d1, d2] }
  | _ => none }
def fnProofBytesRow : OpenClaim := { program := "ytdnkignjanfikaagreat", sum := "a4f7ebefe156d2dcc7c03dd7085dc5c972ce9a23accb3db4151147aca20b5512", func := "loop.example/g00348/laws.FnProofBytes", spec := "fnProofBytes", unfollowed := true, recurses := true, plainKeys := false, apart := false }
def FnProofBytesSaid : Prop := fnProofBytesRow.holds Tryz.pinned (OpenSpec.ofChange fnProofBytesSpec)

/-- ITS FALSE NEIGHBOUR: 'it returns false'. Refute it at one input. -/
def fnProofBytesWrong : ChangeSpec := { name := "fnProofBytes", fn := fun _ => fun
  | [d1, d2] => { results := [.lit (.bool false)], args := [d1, d2] }
  | _ => none }
def FnProofBytesWrongFalsely : Prop := fnProofBytesRow.holds Tryz.pinned (OpenSpec.ofChange fnProofBytesWrong)

/-- 'laws.FnProves': WHATEVER THE INPUT: true; the input reads as it did. -/
def fnProvesSpec : ChangeSpec := { name := "fnProves", fn := fun _ => fun
  | [d1, d2] => { results := [.lit (.bool true)], args := [d1, d2] }
  | _ => none }
def fnProvesRow : OpenClaim := { program := "ytdnkignjanfikaagreat", sum := "a4f7ebefe156d2dcc7c03dd7085dc5c972ce9a23accb3db4151147aca20b5512", func := "loop.example/g00348/laws.FnProves", spec := "fnProves", unfollowed := true, recurses := true, plainKeys := false, apart := false }
def FnProvesSaid : Prop := fnProvesRow.holds Tryz.pinned (OpenSpec.ofChange fnProvesSpec)

/-- ITS FALSE NEIGHBOUR: 'it returns false'. Refute it at one input. -/
def fnProvesWrong : ChangeSpec := { name := "fnProves", fn := fun _ => fun
  | [d1, d2] => { results := [.lit (.bool false)], args := [d1, d2] }
  | _ => none }
def FnProvesWrongFalsely : Prop := fnProvesRow.holds Tryz.pinned (OpenSpec.ofChange fnProvesWrong)

/-- 'laws.FnLies': WHATEVER THE INPUT: true; the input reads as it did. -/
def fnLiesSpec : ChangeSpec := { name := "fnLies", fn := fun _ => fun
  | [d1, d2] => { results := [.lit (.bool true)], args := [d1, d2] }
  | _ => none }
def fnLiesRow : OpenClaim := { program := "ytdnkignjanfikaagreat", sum := "a4f7ebefe156d2dcc7c03dd7085dc5c972ce9a23accb3db4151147aca20b5512", func := "loop.example/g00348/laws.FnLies", spec := "fnLies", unfollowed := true, recurses := true, plainKeys := false, apart := false }
def FnLiesSaid : Prop := fnLiesRow.holds Tryz.pinned (OpenSpec.ofChange fnLiesSpec)

/-- ITS FALSE NEIGHBOUR: 'it returns false'. Refute it at one input. -/
def fnLiesWrong : ChangeSpec := { name := "fnLies", fn := fun _ => fun
  | [d1, d2] => { results := [.lit (.bool false)], args := [d1, d2] }
  | _ => none }
def FnLiesWrongFalsely : Prop := fnLiesRow.holds Tryz.pinned (OpenSpec.ofChange fnLiesWrong)

/- THE SECOND FORM. 'bulk': how many values and letters a reading holds, each counted each time it is reached (what is shared counts as often as it is met; a slice's spare places count too). A statement '..UptoSaid' is the law's where the arguments, and the package variables that the reading takes, are together of bulk at most 1048576: NARROWER than '..Said'. Prove '..Said' where nothing that the law and all that it calls make is longer than what came in: it says more and counts as full. Else prove '..UptoSaid'. A law counts once. -/
mutual
def uptoBulk {H : Type} : DataW H → Nat
  | .lit (.string bytes) => bytes.length + 1
  | .lit _ => 1
  | .nil => 1
  | .ptr d => uptoBulk d + 1
  | .slice elems spare => uptoBulkAll elems + uptoBulkAll spare + 1
  | .agg parts => uptoBulkAll parts + 1
  | .iface _ d => uptoBulk d + 1
  | .map entries => uptoBulkEntries entries + 1
  | .held _ => 1
def uptoBulkAll {H : Type} : List (DataW H) → Nat
  | [] => 0
  | d :: r => uptoBulk d + uptoBulkAll r
def uptoBulkEntries {H : Type} : List (Lit × DataW H) → Nat
  | [] => 0
  | x :: r => uptoBulkEntry x + uptoBulkEntries r
def uptoBulkEntry {H : Type} : Lit × DataW H → Nat
  | (.string bytes, d) => bytes.length + uptoBulk d + 1
  | (_, d) => uptoBulk d + 1
 end
def uptoSmall : (H : Type) → List (DataW H) → Bool := fun _ ds => decide (uptoBulkAll ds ≤ 1048576)
def OpenSpec.upto (s : _root_.Go.ChangeSpec) : _root_.Go.OpenSpec := { _root_.Go.OpenSpec.ofChange s with cond := some uptoSmall }

/-- 'laws.FnTop', WHERE WHAT IT READS IS OF BULK AT MOST 1048576: true; the input reads as it did. -/
def fnTopUptoRow : OpenClaim := { program := "ytdnkignjanfikaagreat", sum := "a4f7ebefe156d2dcc7c03dd7085dc5c972ce9a23accb3db4151147aca20b5512", func := "loop.example/g00348/laws.FnTop", spec := "fnTop", unfollowed := true, recurses := true, plainKeys := false, apart := false, narrowed := true }
def FnTopUptoSaid : Prop := fnTopUptoRow.holds Tryz.pinned (OpenSpec.upto fnTopSpec)

/-- 'laws.FnOpenBent', WHERE WHAT IT READS IS OF BULK AT MOST 1048576: true; the input reads as it did. -/
def fnOpenBentUptoRow : OpenClaim := { program := "ytdnkignjanfikaagreat", sum := "a4f7ebefe156d2dcc7c03dd7085dc5c972ce9a23accb3db4151147aca20b5512", func := "loop.example/g00348/laws.FnOpenBent", spec := "fnOpenBent", unfollowed := true, recurses := true, plainKeys := false, apart := false, narrowed := true }
def FnOpenBentUptoSaid : Prop := fnOpenBentUptoRow.holds Tryz.pinned (OpenSpec.upto fnOpenBentSpec)

/-- 'laws.FnUnsatisfied', WHERE WHAT IT READS IS OF BULK AT MOST 1048576: true; the input reads as it did. -/
def fnUnsatisfiedUptoRow : OpenClaim := { program := "ytdnkignjanfikaagreat", sum := "a4f7ebefe156d2dcc7c03dd7085dc5c972ce9a23accb3db4151147aca20b5512", func := "loop.example/g00348/laws.FnUnsatisfied", spec := "fnUnsatisfied", unfollowed := true, recurses := true, plainKeys := false, apart := false, narrowed := true }
def FnUnsatisfiedUptoSaid : Prop := fnUnsatisfiedUptoRow.holds Tryz.pinned (OpenSpec.upto fnUnsatisfiedSpec)

/-- 'laws.FnBytesLie', WHERE WHAT IT READS IS OF BULK AT MOST 1048576: true; the input reads as it did. -/
def fnBytesLieUptoRow : OpenClaim := { program := "ytdnkignjanfikaagreat", sum := "a4f7ebefe156d2dcc7c03dd7085dc5c972ce9a23accb3db4151147aca20b5512", func := "loop.example/g00348/laws.FnBytesLie", spec := "fnBytesLie", unfollowed := true, recurses := true, plainKeys := false, apart := false, narrowed := true }
def FnBytesLieUptoSaid : Prop := fnBytesLieUptoRow.holds Tryz.pinned (OpenSpec.upto fnBytesLieSpec)

/-- 'laws.FnExactVerifyCircuit', WHERE WHAT IT READS IS OF BULK AT MOST 1048576: true; the input reads as it did. -/
def fnExactVerifyCircuitUptoRow : OpenClaim := { program := "ytdnkignjanfikaagreat", sum := "a4f7ebefe156d2dcc7c03dd7085dc5c972ce9a23accb3db4151147aca20b5512", func := "loop.example/g00348/laws.FnExactVerifyCircuit", spec := "fnExactVerifyCircuit", unfollowed := true, recurses := true, plainKeys := false, apart := false, narrowed := true }
def FnExactVerifyCircuitUptoSaid : Prop := fnExactVerifyCircuitUptoRow.holds Tryz.pinned (OpenSpec.upto fnExactVerifyCircuitSpec)

/-- 'laws.FnProofBytes', WHERE WHAT IT READS IS OF BULK AT MOST 1048576: true; the input reads as it did. -/
def fnProofBytesUptoRow : OpenClaim := { program := "ytdnkignjanfikaagreat", sum := "a4f7ebefe156d2dcc7c03dd7085dc5c972ce9a23accb3db4151147aca20b5512", func := "loop.example/g00348/laws.FnProofBytes", spec := "fnProofBytes", unfollowed := true, recurses := true, plainKeys := false, apart := false, narrowed := true }
def FnProofBytesUptoSaid : Prop := fnProofBytesUptoRow.holds Tryz.pinned (OpenSpec.upto fnProofBytesSpec)

/-- 'laws.FnProves', WHERE WHAT IT READS IS OF BULK AT MOST 1048576: true; the input reads as it did. -/
def fnProvesUptoRow : OpenClaim := { program := "ytdnkignjanfikaagreat", sum := "a4f7ebefe156d2dcc7c03dd7085dc5c972ce9a23accb3db4151147aca20b5512", func := "loop.example/g00348/laws.FnProves", spec := "fnProves", unfollowed := true, recurses := true, plainKeys := false, apart := false, narrowed := true }
def FnProvesUptoSaid : Prop := fnProvesUptoRow.holds Tryz.pinned (OpenSpec.upto fnProvesSpec)

/-- 'laws.FnLies', WHERE WHAT IT READS IS OF BULK AT MOST 1048576: true; the input reads as it did. -/
def fnLiesUptoRow : OpenClaim := { program := "ytdnkignjanfikaagreat", sum := "a4f7ebefe156d2dcc7c03dd7085dc5c972ce9a23accb3db4151147aca20b5512", func := "loop.example/g00348/laws.FnLies", spec := "fnLies", unfollowed := true, recurses := true, plainKeys := false, apart := false, narrowed := true }
def FnLiesUptoSaid : Prop := fnLiesUptoRow.holds Tryz.pinned (OpenSpec.upto fnLiesSpec)

end Rows
end Go.Proofs.YtdnkignjanfikaaGreat
