/-
  No cell of these rows narrows 'for every input' (looked for: loops, veiled, ifaces, maps, wideKeys, modest, calm, conditions, laid).
  DERIVED. THE GIVEN ROWS OF THIS SEAT. 6 by the template 'for every input the law returns true; each argument reads behind the call as it read before'; 0 by the template 'total and deterministic' (their statements: YtdmhkkcihecndaaGreatTotals.lean).
  GIVEN WITH THE SEED: the statements are not yours to turn. If you find one false, say at which input.
  Laid BY PROGRAM, IN A SANDBOX (cutbox-rows.mjs): the forced cells as the released guide's own fill.sh prints them over the translation 269747c3d0d6ecb3… (all of the seat's roots in one cut). By AI agents, Wed Nov 11 2026. No macro, syntax, notation, axiom, sorry.
-/
import Derived.Test.YtdmhkkcihecndaaGreatChecked
import GoSem.Claim
import GoSem.ClaimJoined
import GoSem.ClaimMapViews
import Derived.JoinedTies
import Derived.KernelRfl
namespace Go.Proofs.YtdmhkkcihecndaaGreat
/- THE CELL 'sum', in the pinned program and in every row, IS THE sha256 OF THE DUMP (.gsa) THAT YtdmhkkcihecndaaGreatProg.lean LOADS. Nothing in Lean hashes anything: it is a label: what it is worth is what the hold of that sum in a sandbox is worth. -/
noncomputable def Tryz.pinned : Pinned := { name := "ytdmhkkcihecndaagreat", sum := "269747c3d0d6ecb3fa09ce07188f86537bd334e940989174dfa3f5805bef3c20", checked := Tryz.checked }
namespace Rows
def none {H : Type} : Left H := { results := [], args := [] }

/-- 'laws.FnOpens': WHATEVER THE INPUT: true; the input reads as it did. -/
def fnOpensSpec : ChangeSpec := { name := "fnOpens", fn := fun _ => fun
  | [d1, d2] => { results := [.lit (.bool true)], args := [d1, d2] }
  | _ => none }
def fnOpensRow : OpenClaim := { program := "ytdmhkkcihecndaagreat", sum := "269747c3d0d6ecb3fa09ce07188f86537bd334e940989174dfa3f5805bef3c20", func := "loop.example/g00348/laws.FnOpens", spec := "fnOpens", unfollowed := true, recurses := true, apart := false }
def FnOpensSaid : Prop := fnOpensRow.holds Tryz.pinned (OpenSpec.ofChange fnOpensSpec)

/-- ITS FALSE NEIGHBOUR: 'it returns false'. Refute it at one input. -/
def fnOpensWrong : ChangeSpec := { name := "fnOpens", fn := fun _ => fun
  | [d1, d2] => { results := [.lit (.bool false)], args := [d1, d2] }
  | _ => none }
def FnOpensWrongFalsely : Prop := fnOpensRow.holds Tryz.pinned (OpenSpec.ofChange fnOpensWrong)

/-- 'laws.FnOpenBent': WHATEVER THE INPUT: true; the input reads as it did. -/
def fnOpenBentSpec : ChangeSpec := { name := "fnOpenBent", fn := fun _ => fun
  | [d1, d2] => { results := [.lit (.bool true)], args := [d1, d2] }
  | _ => none }
def fnOpenBentRow : OpenClaim := { program := "ytdmhkkcihecndaagreat", sum := "269747c3d0d6ecb3fa09ce07188f86537bd334e940989174dfa3f5805bef3c20", func := "loop.example/g00348/laws.FnOpenBent", spec := "fnOpenBent", unfollowed := true, recurses := true, apart := false }
def FnOpenBentSaid : Prop := fnOpenBentRow.holds Tryz.pinned (OpenSpec.ofChange fnOpenBentSpec)

/-- ITS FALSE NEIGHBOUR: 'it returns false'. Refute it at one input. -/
def fnOpenBentWrong : ChangeSpec := { name := "fnOpenBent", fn := fun _ => fun
  | [d1, d2] => { results := [.lit (.bool false)], args := [d1, d2] }
  | _ => none }
def FnOpenBentWrongFalsely : Prop := fnOpenBentRow.holds Tryz.pinned (OpenSpec.ofChange fnOpenBentWrong)

/-- 'laws.FnExactVerify': WHATEVER THE INPUT: true; the input reads as it did. -/
def fnExactVerifySpec : ChangeSpec := { name := "fnExactVerify", fn := fun _ => fun
  | [d1, d2, d3, d4, d5] => { results := [.lit (.bool true)], args := [d1, d2, d3, d4, d5] }
  | _ => none }
def fnExactVerifyRow : OpenClaim := { program := "ytdmhkkcihecndaagreat", sum := "269747c3d0d6ecb3fa09ce07188f86537bd334e940989174dfa3f5805bef3c20", func := "loop.example/g00348/laws.FnExactVerify", spec := "fnExactVerify", unfollowed := true, recurses := true, apart := false }
def FnExactVerifySaid : Prop := fnExactVerifyRow.holds Tryz.pinned (OpenSpec.ofChange fnExactVerifySpec)

/-- ITS FALSE NEIGHBOUR: 'it returns false'. Refute it at one input. -/
def fnExactVerifyWrong : ChangeSpec := { name := "fnExactVerify", fn := fun _ => fun
  | [d1, d2, d3, d4, d5] => { results := [.lit (.bool false)], args := [d1, d2, d3, d4, d5] }
  | _ => none }
def FnExactVerifyWrongFalsely : Prop := fnExactVerifyRow.holds Tryz.pinned (OpenSpec.ofChange fnExactVerifyWrong)

/-- 'laws.FnExactVerifyBytes': WHATEVER THE INPUT: true; the input reads as it did. -/
def fnExactVerifyBytesSpec : ChangeSpec := { name := "fnExactVerifyBytes", fn := fun _ => fun
  | [d1, d2, d3, d4, d5] => { results := [.lit (.bool true)], args := [d1, d2, d3, d4, d5] }
  | _ => none }
def fnExactVerifyBytesRow : OpenClaim := { program := "ytdmhkkcihecndaagreat", sum := "269747c3d0d6ecb3fa09ce07188f86537bd334e940989174dfa3f5805bef3c20", func := "loop.example/g00348/laws.FnExactVerifyBytes", spec := "fnExactVerifyBytes", unfollowed := true, recurses := true, apart := false }
def FnExactVerifyBytesSaid : Prop := fnExactVerifyBytesRow.holds Tryz.pinned (OpenSpec.ofChange fnExactVerifyBytesSpec)

/-- ITS FALSE NEIGHBOUR: 'it returns false'. Refute it at one input. -/
def fnExactVerifyBytesWrong : ChangeSpec := { name := "fnExactVerifyBytes", fn := fun _ => fun
  | [d1, d2, d3, d4, d5] => { results := [.lit (.bool false)], args := [d1, d2, d3, d4, d5] }
  | _ => none }
def FnExactVerifyBytesWrongFalsely : Prop := fnExactVerifyBytesRow.holds Tryz.pinned (OpenSpec.ofChange fnExactVerifyBytesWrong)

/-- 'laws.FnBytesLie': WHATEVER THE INPUT: true; the input reads as it did. -/
def fnBytesLieSpec : ChangeSpec := { name := "fnBytesLie", fn := fun _ => fun
  | [d1, d2] => { results := [.lit (.bool true)], args := [d1, d2] }
  | _ => none }
def fnBytesLieRow : OpenClaim := { program := "ytdmhkkcihecndaagreat", sum := "269747c3d0d6ecb3fa09ce07188f86537bd334e940989174dfa3f5805bef3c20", func := "loop.example/g00348/laws.FnBytesLie", spec := "fnBytesLie", unfollowed := true, recurses := true, apart := false }
def FnBytesLieSaid : Prop := fnBytesLieRow.holds Tryz.pinned (OpenSpec.ofChange fnBytesLieSpec)

/-- ITS FALSE NEIGHBOUR: 'it returns false'. Refute it at one input. -/
def fnBytesLieWrong : ChangeSpec := { name := "fnBytesLie", fn := fun _ => fun
  | [d1, d2] => { results := [.lit (.bool false)], args := [d1, d2] }
  | _ => none }
def FnBytesLieWrongFalsely : Prop := fnBytesLieRow.holds Tryz.pinned (OpenSpec.ofChange fnBytesLieWrong)

/-- 'laws.FnExactReadProof': WHATEVER THE INPUT: true; the input reads as it did. -/
def fnExactReadProofSpec : ChangeSpec := { name := "fnExactReadProof", fn := fun _ => fun
  | [d1, d2, d3] => { results := [.lit (.bool true)], args := [d1, d2, d3] }
  | _ => none }
def fnExactReadProofRow : OpenClaim := { program := "ytdmhkkcihecndaagreat", sum := "269747c3d0d6ecb3fa09ce07188f86537bd334e940989174dfa3f5805bef3c20", func := "loop.example/g00348/laws.FnExactReadProof", spec := "fnExactReadProof", unfollowed := true, recurses := true, apart := false }
def FnExactReadProofSaid : Prop := fnExactReadProofRow.holds Tryz.pinned (OpenSpec.ofChange fnExactReadProofSpec)

/-- ITS FALSE NEIGHBOUR: 'it returns false'. Refute it at one input. -/
def fnExactReadProofWrong : ChangeSpec := { name := "fnExactReadProof", fn := fun _ => fun
  | [d1, d2, d3] => { results := [.lit (.bool false)], args := [d1, d2, d3] }
  | _ => none }
def FnExactReadProofWrongFalsely : Prop := fnExactReadProofRow.holds Tryz.pinned (OpenSpec.ofChange fnExactReadProofWrong)

/- THE SECOND FORM. 'bulk': how many values and letters a reading holds, each counted each time it is reached (what is shared counts as often as it is met; a slice's spare places count too). A statement '..UptoSaid' is the law's where the arguments, and the package variables that the reading takes, are together of bulk at most 1048576: NARROWER than '..Said'. Prove '..Said' where nothing that the law and all that it calls make is longer than what came in: it says more and counts as full. Else prove '..UptoSaid'. A law counts once. -/
mutual
def uptoBulk {H : Type} : DataW H → Nat
  | .lit (.string bytes) => bytes.length + 1
  | .lit _ => 1
  | .nil => 1
  | .ptr d => uptoBulk d + 1
  | .slice elems spare => uptoBulkAll elems + uptoBulkAll spare + 1
  | .agg parts => uptoBulkAll parts + 1
  | .iface _ d => uptoBulk d + 1
  | .map entries => uptoBulkEntries entries + 1
  | .held _ => 1
def uptoBulkAll {H : Type} : List (DataW H) → Nat
  | [] => 0
  | d :: r => uptoBulk d + uptoBulkAll r
def uptoBulkEntries {H : Type} : List (Lit × DataW H) → Nat
  | [] => 0
  | x :: r => uptoBulkEntry x + uptoBulkEntries r
def uptoBulkEntry {H : Type} : Lit × DataW H → Nat
  | (.string bytes, d) => bytes.length + uptoBulk d + 1
  | (_, d) => uptoBulk d + 1
 end
def uptoSmall : (H : Type) → List (DataW H) → Bool := fun _ ds => decide (uptoBulkAll ds ≤ 1048576)
def OpenSpec.upto (s : _root_.Go.ChangeSpec) : _root_.Go.OpenSpec := { _root_.Go.OpenSpec.ofChange s with cond := some uptoSmall }

/-- 'laws.FnOpens', WHERE WHAT IT READS IS OF BULK AT MOST 1048576: true; the input reads as it did. -/
def fnOpensUptoRow : OpenClaim := { program := "ytdmhkkcihecndaagreat", sum := "269747c3d0d6ecb3fa09ce07188f86537bd334e940989174dfa3f5805bef3c20", func := "loop.example/g00348/laws.FnOpens", spec := "fnOpens", unfollowed := true, recurses := true, apart := false, narrowed := true }
def FnOpensUptoSaid : Prop := fnOpensUptoRow.holds Tryz.pinned (OpenSpec.upto fnOpensSpec)

/-- 'laws.FnOpenBent', WHERE WHAT IT READS IS OF BULK AT MOST 1048576: true; the input reads as it did. -/
def fnOpenBentUptoRow : OpenClaim := { program := "ytdmhkkcihecndaagreat", sum := "269747c3d0d6ecb3fa09ce07188f86537bd334e940989174dfa3f5805bef3c20", func := "loop.example/g00348/laws.FnOpenBent", spec := "fnOpenBent", unfollowed := true, recurses := true, apart := false, narrowed := true }
def FnOpenBentUptoSaid : Prop := fnOpenBentUptoRow.holds Tryz.pinned (OpenSpec.upto fnOpenBentSpec)

/-- 'laws.FnExactVerify', WHERE WHAT IT READS IS OF BULK AT MOST 1048576: true; the input reads as it did. -/
def fnExactVerifyUptoRow : OpenClaim := { program := "ytdmhkkcihecndaagreat", sum := "269747c3d0d6ecb3fa09ce07188f86537bd334e940989174dfa3f5805bef3c20", func := "loop.example/g00348/laws.FnExactVerify", spec := "fnExactVerify", unfollowed := true, recurses := true, apart := false, narrowed := true }
def FnExactVerifyUptoSaid : Prop := fnExactVerifyUptoRow.holds Tryz.pinned (OpenSpec.upto fnExactVerifySpec)

/-- 'laws.FnExactVerifyBytes', WHERE WHAT IT READS IS OF BULK AT MOST 1048576: true; the input reads as it did. -/
def fnExactVerifyBytesUptoRow : OpenClaim := { program := "ytdmhkkcihecndaagreat", sum := "269747c3d0d6ecb3fa09ce07188f86537bd334e940989174dfa3f5805bef3c20", func := "loop.example/g00348/laws.FnExactVerifyBytes", spec := "fnExactVerifyBytes", unfollowed := true, recurses := true, apart := false, narrowed := true }
def FnExactVerifyBytesUptoSaid : Prop := fnExactVerifyBytesUptoRow.holds Tryz.pinned (OpenSpec.upto fnExactVerifyBytesSpec)

/-- 'laws.FnBytesLie', WHERE WHAT IT READS IS OF BULK AT MOST 1048576: true; the input reads as it did. -/
def fnBytesLieUptoRow : OpenClaim := { program := "ytdmhkkcihecndaagreat", sum := "269747c3d0d6ecb3fa09ce07188f86537bd334e940989174dfa3f5805bef3c20", func := "loop.example/g00348/laws.FnBytesLie", spec := "fnBytesLie", unfollowed := true, recurses := true, apart := false, narrowed := true }
def FnBytesLieUptoSaid : Prop := fnBytesLieUptoRow.holds Tryz.pinned (OpenSpec.upto fnBytesLieSpec)

/-- 'laws.FnExactReadProof', WHERE WHAT IT READS IS OF BULK AT MOST 1048576: true; the input reads as it did. -/
def fnExactReadProofUptoRow : OpenClaim := { program := "ytdmhkkcihecndaagreat", sum := "269747c3d0d6ecb3fa09ce07188f86537bd334e940989174dfa3f5805bef3c20", func := "loop.example/g00348/laws.FnExactReadProof", spec := "fnExactReadProof", unfollowed := true, recurses := true, apart := false, narrowed := true }
def FnExactReadProofUptoSaid : Prop := fnExactReadProofUptoRow.holds Tryz.pinned (OpenSpec.upto fnExactReadProofSpec)

end Rows
end Go.Proofs.YtdmhkkcihecndaaGreat
