/-
  No cell of these rows narrows 'for every input' (looked for: loops, veiled, ifaces, maps, wideKeys, modest, calm, conditions, laid).
  DERIVED. THE GIVEN ROWS OF THIS SEAT. 6 by the template 'for every input the law returns true; each argument reads behind the call as it read before'; 0 by the template 'total and deterministic' (their statements: YtmhgflhndmcdmaaGreatTotals.lean).
  GIVEN WITH THE SEED: the statements are not yours to turn. If you find one false, say at which input.
  Laid BY PROGRAM, IN A SANDBOX (cutbox-rows.mjs): the forced cells as the released guide's own fill.sh prints them over the translation 220e6b22fbe4d234… (all of the seat's roots in one cut). By AI agents, Wed Nov 11 2026. No macro, syntax, notation, axiom, sorry.
-/
import Derived.Test.YtmhgflhndmcdmaaGreatChecked
import GoSem.Claim
import GoSem.ClaimJoined
import GoSem.ClaimMapViews
import Derived.JoinedTies
import Derived.KernelRfl
namespace Go.Proofs.YtmhgflhndmcdmaaGreat
/- THE CELL 'sum', in the pinned program and in every row, IS THE sha256 OF THE DUMP (.gsa) THAT YtmhgflhndmcdmaaGreatProg.lean LOADS. Nothing in Lean hashes anything: it is a label: what it is worth is what the hold of that sum in a sandbox is worth. -/
noncomputable def Tryz.pinned : Pinned := { name := "ytmhgflhndmcdmaagreat", sum := "220e6b22fbe4d23434584f20b4cb35e09c704eeb1708ff2cad8580d0567be019", checked := Tryz.checked }
namespace Rows
def none {H : Type} : Left H := { results := [], args := [] }

/-- 'laws.FnStarts': WHATEVER THE INPUT: true; the input reads as it did. -/
def fnStartsSpec : ChangeSpec := { name := "fnStarts", fn := fun _ => fun
  | [d1, d2] => { results := [.lit (.bool true)], args := [d1, d2] }
  | _ => none }
def fnStartsRow : OpenClaim := { program := "ytmhgflhndmcdmaagreat", sum := "220e6b22fbe4d23434584f20b4cb35e09c704eeb1708ff2cad8580d0567be019", func := "loop.example/g00348/laws.FnStarts", spec := "fnStarts", unfollowed := true, recurses := true, apart := false }
def FnStartsSaid : Prop := fnStartsRow.holds Tryz.pinned (OpenSpec.ofChange fnStartsSpec)

/-- ITS FALSE NEIGHBOUR: 'it returns false'. Refute it at one input. -/
def fnStartsWrong : ChangeSpec := { name := "fnStarts", fn := fun _ => fun
  | [d1, d2] => { results := [.lit (.bool false)], args := [d1, d2] }
  | _ => none }
def FnStartsWrongFalsely : Prop := fnStartsRow.holds Tryz.pinned (OpenSpec.ofChange fnStartsWrong)

/-- 'laws.FnSumLies': WHATEVER THE INPUT: true; the input reads as it did. -/
def fnSumLiesSpec : ChangeSpec := { name := "fnSumLies", fn := fun _ => fun
  | [d1, d2] => { results := [.lit (.bool true)], args := [d1, d2] }
  | _ => none }
def fnSumLiesRow : OpenClaim := { program := "ytmhgflhndmcdmaagreat", sum := "220e6b22fbe4d23434584f20b4cb35e09c704eeb1708ff2cad8580d0567be019", func := "loop.example/g00348/laws.FnSumLies", spec := "fnSumLies", unfollowed := true, recurses := true, apart := false }
def FnSumLiesSaid : Prop := fnSumLiesRow.holds Tryz.pinned (OpenSpec.ofChange fnSumLiesSpec)

/-- ITS FALSE NEIGHBOUR: 'it returns false'. Refute it at one input. -/
def fnSumLiesWrong : ChangeSpec := { name := "fnSumLies", fn := fun _ => fun
  | [d1, d2] => { results := [.lit (.bool false)], args := [d1, d2] }
  | _ => none }
def FnSumLiesWrongFalsely : Prop := fnSumLiesRow.holds Tryz.pinned (OpenSpec.ofChange fnSumLiesWrong)

/-- 'laws.FnSums': WHATEVER THE INPUT: true; the input reads as it did. -/
def fnSumsSpec : ChangeSpec := { name := "fnSums", fn := fun _ => fun
  | [d1, d2] => { results := [.lit (.bool true)], args := [d1, d2] }
  | _ => none }
def fnSumsRow : OpenClaim := { program := "ytmhgflhndmcdmaagreat", sum := "220e6b22fbe4d23434584f20b4cb35e09c704eeb1708ff2cad8580d0567be019", func := "loop.example/g00348/laws.FnSums", spec := "fnSums", unfollowed := true, recurses := true, apart := false }
def FnSumsSaid : Prop := fnSumsRow.holds Tryz.pinned (OpenSpec.ofChange fnSumsSpec)

/-- ITS FALSE NEIGHBOUR: 'it returns false'. Refute it at one input. -/
def fnSumsWrong : ChangeSpec := { name := "fnSums", fn := fun _ => fun
  | [d1, d2] => { results := [.lit (.bool false)], args := [d1, d2] }
  | _ => none }
def FnSumsWrongFalsely : Prop := fnSumsRow.holds Tryz.pinned (OpenSpec.ofChange fnSumsWrong)

/-- 'laws.FnOpeningBytes': WHATEVER THE INPUT: true; the input reads as it did. -/
def fnOpeningBytesSpec : ChangeSpec := { name := "fnOpeningBytes", fn := fun _ => fun
  | [d1, d2] => { results := [.lit (.bool true)], args := [d1, d2] }
  | _ => none }
def fnOpeningBytesRow : OpenClaim := { program := "ytmhgflhndmcdmaagreat", sum := "220e6b22fbe4d23434584f20b4cb35e09c704eeb1708ff2cad8580d0567be019", func := "loop.example/g00348/laws.FnOpeningBytes", spec := "fnOpeningBytes", unfollowed := true, recurses := true, apart := false }
def FnOpeningBytesSaid : Prop := fnOpeningBytesRow.holds Tryz.pinned (OpenSpec.ofChange fnOpeningBytesSpec)

/-- ITS FALSE NEIGHBOUR: 'it returns false'. Refute it at one input. -/
def fnOpeningBytesWrong : ChangeSpec := { name := "fnOpeningBytes", fn := fun _ => fun
  | [d1, d2] => { results := [.lit (.bool false)], args := [d1, d2] }
  | _ => none }
def FnOpeningBytesWrongFalsely : Prop := fnOpeningBytesRow.holds Tryz.pinned (OpenSpec.ofChange fnOpeningBytesWrong)

/-- 'laws.FnExactReadProof': WHATEVER THE INPUT: true; the input reads as it did. -/
def fnExactReadProofSpec : ChangeSpec := { name := "fnExactReadProof", fn := fun _ => fun
  | [d1, d2, d3] => { results := [.lit (.bool true)], args := [d1, d2, d3] }
  | _ => none }
def fnExactReadProofRow : OpenClaim := { program := "ytmhgflhndmcdmaagreat", sum := "220e6b22fbe4d23434584f20b4cb35e09c704eeb1708ff2cad8580d0567be019", func := "loop.example/g00348/laws.FnExactReadProof", spec := "fnExactReadProof", unfollowed := true, recurses := true, apart := false }
def FnExactReadProofSaid : Prop := fnExactReadProofRow.holds Tryz.pinned (OpenSpec.ofChange fnExactReadProofSpec)

/-- ITS FALSE NEIGHBOUR: 'it returns false'. Refute it at one input. -/
def fnExactReadProofWrong : ChangeSpec := { name := "fnExactReadProof", fn := fun _ => fun
  | [d1, d2, d3] => { results := [.lit (.bool false)], args := [d1, d2, d3] }
  | _ => none }
def FnExactReadProofWrongFalsely : Prop := fnExactReadProofRow.holds Tryz.pinned (OpenSpec.ofChange fnExactReadProofWrong)

/-- 'laws.FnExactProofBytes': WHATEVER THE INPUT: true; the input reads as it did. -/
def fnExactProofBytesSpec : ChangeSpec := { name := "fnExactProofBytes", fn := fun _ => fun
  | [d1, d2, d3] => { results := [.lit (.bool true)], args := [d1, d2, d3] }
  | _ => none }
def fnExactProofBytesRow : OpenClaim := { program := "ytmhgflhndmcdmaagreat", sum := "220e6b22fbe4d23434584f20b4cb35e09c704eeb1708ff2cad8580d0567be019", func := "loop.example/g00348/laws.FnExactProofBytes", spec := "fnExactProofBytes", unfollowed := true, recurses := true, apart := false }
def FnExactProofBytesSaid : Prop := fnExactProofBytesRow.holds Tryz.pinned (OpenSpec.ofChange fnExactProofBytesSpec)

/-- ITS FALSE NEIGHBOUR: 'it returns false'. Refute it at one input. -/
def fnExactProofBytesWrong : ChangeSpec := { name := "fnExactProofBytes", fn := fun _ => fun
  | [d1, d2, d3] => { results := [.lit (.bool false)], args := [d1, d2, d3] }
  | _ => none }
def FnExactProofBytesWrongFalsely : Prop := fnExactProofBytesRow.holds Tryz.pinned (OpenSpec.ofChange fnExactProofBytesWrong)

/- THE SECOND FORM. 'bulk': how many values and letters a reading holds, each counted each time it is reached (what is shared counts as often as it is met; a slice's spare places count too). A statement '..UptoSaid' is the law's where the arguments, and the package variables that the reading takes, are together of bulk at most 1048576: NARROWER than '..Said'. Prove '..Said' where nothing that the law and all that it calls make is longer than what came in: it says more and counts as full. Else prove '..UptoSaid'. A law counts once. -/
mutual
def uptoBulk {H : Type} : DataW H → Nat
  | .lit (.string bytes) => bytes.length + 1
  | .lit _ => 1
  | .nil => 1
  | .ptr d => uptoBulk d + 1
  | .slice elems spare => uptoBulkAll elems + uptoBulkAll spare + 1
  | .agg parts => uptoBulkAll parts + 1
  | .iface _ d => uptoBulk d + 1
  | .map entries => uptoBulkEntries entries + 1
  | .held _ => 1
def uptoBulkAll {H : Type} : List (DataW H) → Nat
  | [] => 0
  | d :: r => uptoBulk d + uptoBulkAll r
def uptoBulkEntries {H : Type} : List (Lit × DataW H) → Nat
  | [] => 0
  | x :: r => uptoBulkEntry x + uptoBulkEntries r
def uptoBulkEntry {H : Type} : Lit × DataW H → Nat
  | (.string bytes, d) => bytes.length + uptoBulk d + 1
  | (_, d) => uptoBulk d + 1
 end
def uptoSmall : (H : Type) → List (DataW H) → Bool := fun _ ds => decide (uptoBulkAll ds ≤ 1048576)
def OpenSpec.upto (s : _root_.Go.ChangeSpec) : _root_.Go.OpenSpec := { _root_.Go.OpenSpec.ofChange s with cond := some uptoSmall }

/-- 'laws.FnStarts', WHERE WHAT IT READS IS OF BULK AT MOST 1048576: true; the input reads as it did. -/
def fnStartsUptoRow : OpenClaim := { program := "ytmhgflhndmcdmaagreat", sum := "220e6b22fbe4d23434584f20b4cb35e09c704eeb1708ff2cad8580d0567be019", func := "loop.example/g00348/laws.FnStarts", spec := "fnStarts", unfollowed := true, recurses := true, apart := false, narrowed := true }
def FnStartsUptoSaid : Prop := fnStartsUptoRow.holds Tryz.pinned (OpenSpec.upto fnStartsSpec)

/-- 'laws.FnSumLies', WHERE WHAT IT READS IS OF BULK AT MOST 1048576: true; the input reads as it did. -/
def fnSumLiesUptoRow : OpenClaim := { program := "ytmhgflhndmcdmaagreat", sum := "220e6b22fbe4d23434584f20b4cb35e09c704eeb1708ff2cad8580d0567be019", func := "loop.example/g00348/laws.FnSumLies", spec := "fnSumLies", unfollowed := true, recurses := true, apart := false, narrowed := true }
def FnSumLiesUptoSaid : Prop := fnSumLiesUptoRow.holds Tryz.pinned (OpenSpec.upto fnSumLiesSpec)

/-- 'laws.FnSums', WHERE WHAT IT READS IS OF BULK AT MOST 1048576: true; the input reads as it did. -/
def fnSumsUptoRow : OpenClaim := { program := "ytmhgflhndmcdmaagreat", sum := "220e6b22fbe4d23434584f20b4cb35e09c704eeb1708ff2cad8580d0567be019", func := "loop.example/g00348/laws.FnSums", spec := "fnSums", unfollowed := true, recurses := true, apart := false, narrowed := true }
def FnSumsUptoSaid : Prop := fnSumsUptoRow.holds Tryz.pinned (OpenSpec.upto fnSumsSpec)

/-- 'laws.FnOpeningBytes', WHERE WHAT IT READS IS OF BULK AT MOST 1048576: true; the input reads as it did. -/
def fnOpeningBytesUptoRow : OpenClaim := { program := "ytmhgflhndmcdmaagreat", sum := "220e6b22fbe4d23434584f20b4cb35e09c704eeb1708ff2cad8580d0567be019", func := "loop.example/g00348/laws.FnOpeningBytes", spec := "fnOpeningBytes", unfollowed := true, recurses := true, apart := false, narrowed := true }
def FnOpeningBytesUptoSaid : Prop := fnOpeningBytesUptoRow.holds Tryz.pinned (OpenSpec.upto fnOpeningBytesSpec)

/-- 'laws.FnExactReadProof', WHERE WHAT IT READS IS OF BULK AT MOST 1048576: true; the input reads as it did. -/
def fnExactReadProofUptoRow : OpenClaim := { program := "ytmhgflhndmcdmaagreat", sum := "220e6b22fbe4d23434584f20b4cb35e09c704eeb1708ff2cad8580d0567be019", func := "loop.example/g00348/laws.FnExactReadProof", spec := "fnExactReadProof", unfollowed := true, recurses := true, apart := false, narrowed := true }
def FnExactReadProofUptoSaid : Prop := fnExactReadProofUptoRow.holds Tryz.pinned (OpenSpec.upto fnExactReadProofSpec)

/-- 'laws.FnExactProofBytes', WHERE WHAT IT READS IS OF BULK AT MOST 1048576: true; the input reads as it did. -/
def fnExactProofBytesUptoRow : OpenClaim := { program := "ytmhgflhndmcdmaagreat", sum := "220e6b22fbe4d23434584f20b4cb35e09c704eeb1708ff2cad8580d0567be019", func := "loop.example/g00348/laws.FnExactProofBytes", spec := "fnExactProofBytes", unfollowed := true, recurses := true, apart := false, narrowed := true }
def FnExactProofBytesUptoSaid : Prop := fnExactProofBytesUptoRow.holds Tryz.pinned (OpenSpec.upto fnExactProofBytesSpec)

end Rows
end Go.Proofs.YtmhgflhndmcdmaaGreat
