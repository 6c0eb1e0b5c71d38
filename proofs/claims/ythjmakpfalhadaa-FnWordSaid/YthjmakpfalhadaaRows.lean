/-
  No cell of these rows narrows 'for every input' (looked for: loops, veiled, ifaces, maps, wideKeys, modest, calm, conditions, laid).
  DERIVED. THE GIVEN ROWS OF THIS SEAT. 12 by the template 'for every input the law returns true; each argument reads behind the call as it read before'; 0 by the template 'total and deterministic' (their statements: YthjmakpfalhadaaTotals.lean).
  GIVEN WITH THE SEED: the statements are not yours to turn. If you find one false, say at which input.
  Laid BY PROGRAM, IN A SANDBOX (cutbox-rows.mjs): the forced cells as the released guide's own fill.sh prints them over the translation 7c80628da6757bb9… (all of the seat's roots in one cut). By AI agents, Wed Nov 11 2026. No macro, syntax, notation, axiom, sorry.
-/
import Derived.Test.YthjmakpfalhadaaChecked
import GoSem.Claim
import GoSem.ClaimJoined
import GoSem.ClaimMapViews
import Derived.JoinedTies
import Derived.KernelRfl
namespace Go.Proofs.Ythjmakpfalhadaa
/- THE CELL 'sum', in the pinned program and in every row, IS THE sha256 OF THE DUMP (.gsa) THAT YthjmakpfalhadaaProg.lean LOADS. Nothing in Lean hashes anything: it is a label: what it is worth is what the hold of that sum in a sandbox is worth. -/
noncomputable def Try.pinned : Pinned := { name := "ythjmakpfalhadaa", sum := "7c80628da6757bb946b3c91f403be8db6e8a5b71a55786f7d005b2c33b2dc89a", checked := Try.checked }
namespace Rows
def none {H : Type} : Left H := { results := [], args := [] }

/-- 'laws.FnPublic': WHATEVER THE INPUT: true; the input reads as it did. -/
def fnPublicSpec : ChangeSpec := { name := "fnPublic", fn := fun _ => fun
  | [d1, d2] => { results := [.lit (.bool true)], args := [d1, d2] }
  | _ => none }
def fnPublicRow : OpenClaim := { program := "ythjmakpfalhadaa", sum := "7c80628da6757bb946b3c91f403be8db6e8a5b71a55786f7d005b2c33b2dc89a", func := "loop.example/g00348/laws.FnPublic", spec := "fnPublic", unfollowed := true, recurses := true, apart := false }
def FnPublicSaid : Prop := fnPublicRow.holds Try.pinned (OpenSpec.ofChange fnPublicSpec)

/-- ITS FALSE NEIGHBOUR: 'it returns false'. Refute it at one input. -/
def fnPublicWrong : ChangeSpec := { name := "fnPublic", fn := fun _ => fun
  | [d1, d2] => { results := [.lit (.bool false)], args := [d1, d2] }
  | _ => none }
def FnPublicWrongFalsely : Prop := fnPublicRow.holds Try.pinned (OpenSpec.ofChange fnPublicWrong)

/-- 'laws.FnFoldWord': WHATEVER THE INPUT: true; the input reads as it did. -/
def fnFoldWordSpec : ChangeSpec := { name := "fnFoldWord", fn := fun _ => fun
  | [d1, d2] => { results := [.lit (.bool true)], args := [d1, d2] }
  | _ => none }
def fnFoldWordRow : OpenClaim := { program := "ythjmakpfalhadaa", sum := "7c80628da6757bb946b3c91f403be8db6e8a5b71a55786f7d005b2c33b2dc89a", func := "loop.example/g00348/laws.FnFoldWord", spec := "fnFoldWord", unfollowed := true, recurses := true, apart := false }
def FnFoldWordSaid : Prop := fnFoldWordRow.holds Try.pinned (OpenSpec.ofChange fnFoldWordSpec)

/-- ITS FALSE NEIGHBOUR: 'it returns false'. Refute it at one input. -/
def fnFoldWordWrong : ChangeSpec := { name := "fnFoldWord", fn := fun _ => fun
  | [d1, d2] => { results := [.lit (.bool false)], args := [d1, d2] }
  | _ => none }
def FnFoldWordWrongFalsely : Prop := fnFoldWordRow.holds Try.pinned (OpenSpec.ofChange fnFoldWordWrong)

/-- 'laws.FnExtBytes': WHATEVER THE INPUT: true; the input reads as it did. -/
def fnExtBytesSpec : ChangeSpec := { name := "fnExtBytes", fn := fun _ => fun
  | [d1, d2] => { results := [.lit (.bool true)], args := [d1, d2] }
  | _ => none }
def fnExtBytesRow : OpenClaim := { program := "ythjmakpfalhadaa", sum := "7c80628da6757bb946b3c91f403be8db6e8a5b71a55786f7d005b2c33b2dc89a", func := "loop.example/g00348/laws.FnExtBytes", spec := "fnExtBytes", unfollowed := true, recurses := true, apart := false }
def FnExtBytesSaid : Prop := fnExtBytesRow.holds Try.pinned (OpenSpec.ofChange fnExtBytesSpec)

/-- ITS FALSE NEIGHBOUR: 'it returns false'. Refute it at one input. -/
def fnExtBytesWrong : ChangeSpec := { name := "fnExtBytes", fn := fun _ => fun
  | [d1, d2] => { results := [.lit (.bool false)], args := [d1, d2] }
  | _ => none }
def FnExtBytesWrongFalsely : Prop := fnExtBytesRow.holds Try.pinned (OpenSpec.ofChange fnExtBytesWrong)

/-- 'laws.FnNtt': WHATEVER THE INPUT: true; the input reads as it did. -/
def fnNttSpec : ChangeSpec := { name := "fnNtt", fn := fun _ => fun
  | [d1, d2] => { results := [.lit (.bool true)], args := [d1, d2] }
  | _ => none }
def fnNttRow : OpenClaim := { program := "ythjmakpfalhadaa", sum := "7c80628da6757bb946b3c91f403be8db6e8a5b71a55786f7d005b2c33b2dc89a", func := "loop.example/g00348/laws.FnNtt", spec := "fnNtt", unfollowed := true, recurses := true, apart := false }
def FnNttSaid : Prop := fnNttRow.holds Try.pinned (OpenSpec.ofChange fnNttSpec)

/-- ITS FALSE NEIGHBOUR: 'it returns false'. Refute it at one input. -/
def fnNttWrong : ChangeSpec := { name := "fnNtt", fn := fun _ => fun
  | [d1, d2] => { results := [.lit (.bool false)], args := [d1, d2] }
  | _ => none }
def FnNttWrongFalsely : Prop := fnNttRow.holds Try.pinned (OpenSpec.ofChange fnNttWrong)

/-- 'laws.FnGrind': WHATEVER THE INPUT: true; the input reads as it did. -/
def fnGrindSpec : ChangeSpec := { name := "fnGrind", fn := fun _ => fun
  | [d1, d2] => { results := [.lit (.bool true)], args := [d1, d2] }
  | _ => none }
def fnGrindRow : OpenClaim := { program := "ythjmakpfalhadaa", sum := "7c80628da6757bb946b3c91f403be8db6e8a5b71a55786f7d005b2c33b2dc89a", func := "loop.example/g00348/laws.FnGrind", spec := "fnGrind", unfollowed := true, recurses := true, apart := false }
def FnGrindSaid : Prop := fnGrindRow.holds Try.pinned (OpenSpec.ofChange fnGrindSpec)

/-- ITS FALSE NEIGHBOUR: 'it returns false'. Refute it at one input. -/
def fnGrindWrong : ChangeSpec := { name := "fnGrind", fn := fun _ => fun
  | [d1, d2] => { results := [.lit (.bool false)], args := [d1, d2] }
  | _ => none }
def FnGrindWrongFalsely : Prop := fnGrindRow.holds Try.pinned (OpenSpec.ofChange fnGrindWrong)

/-- 'laws.FnWord': WHATEVER THE INPUT: true; the input reads as it did. -/
def fnWordSpec : ChangeSpec := { name := "fnWord", fn := fun _ => fun
  | [d1, d2] => { results := [.lit (.bool true)], args := [d1, d2] }
  | _ => none }
def fnWordRow : OpenClaim := { program := "ythjmakpfalhadaa", sum := "7c80628da6757bb946b3c91f403be8db6e8a5b71a55786f7d005b2c33b2dc89a", func := "loop.example/g00348/laws.FnWord", spec := "fnWord", unfollowed := true, recurses := true, apart := false }
def FnWordSaid : Prop := fnWordRow.holds Try.pinned (OpenSpec.ofChange fnWordSpec)

/-- ITS FALSE NEIGHBOUR: 'it returns false'. Refute it at one input. -/
def fnWordWrong : ChangeSpec := { name := "fnWord", fn := fun _ => fun
  | [d1, d2] => { results := [.lit (.bool false)], args := [d1, d2] }
  | _ => none }
def FnWordWrongFalsely : Prop := fnWordRow.holds Try.pinned (OpenSpec.ofChange fnWordWrong)

/-- 'laws.FnExactBoundTable': WHATEVER THE INPUT: true; the input reads as it did. -/
def fnExactBoundTableSpec : ChangeSpec := { name := "fnExactBoundTable", fn := fun _ => fun
  | [d1, d2, d3, d4, d5] => { results := [.lit (.bool true)], args := [d1, d2, d3, d4, d5] }
  | _ => none }
def fnExactBoundTableRow : OpenClaim := { program := "ythjmakpfalhadaa", sum := "7c80628da6757bb946b3c91f403be8db6e8a5b71a55786f7d005b2c33b2dc89a", func := "loop.example/g00348/laws.FnExactBoundTable", spec := "fnExactBoundTable", unfollowed := true, recurses := true, apart := false }
def FnExactBoundTableSaid : Prop := fnExactBoundTableRow.holds Try.pinned (OpenSpec.ofChange fnExactBoundTableSpec)

/-- ITS FALSE NEIGHBOUR: 'it returns false'. Refute it at one input. -/
def fnExactBoundTableWrong : ChangeSpec := { name := "fnExactBoundTable", fn := fun _ => fun
  | [d1, d2, d3, d4, d5] => { results := [.lit (.bool false)], args := [d1, d2, d3, d4, d5] }
  | _ => none }
def FnExactBoundTableWrongFalsely : Prop := fnExactBoundTableRow.holds Try.pinned (OpenSpec.ofChange fnExactBoundTableWrong)

/-- 'laws.FnExactPublicAt': WHATEVER THE INPUT: true; the input reads as it did. -/
def fnExactPublicAtSpec : ChangeSpec := { name := "fnExactPublicAt", fn := fun _ => fun
  | [d1, d2, d3] => { results := [.lit (.bool true)], args := [d1, d2, d3] }
  | _ => none }
def fnExactPublicAtRow : OpenClaim := { program := "ythjmakpfalhadaa", sum := "7c80628da6757bb946b3c91f403be8db6e8a5b71a55786f7d005b2c33b2dc89a", func := "loop.example/g00348/laws.FnExactPublicAt", spec := "fnExactPublicAt", unfollowed := true, recurses := true, apart := false }
def FnExactPublicAtSaid : Prop := fnExactPublicAtRow.holds Try.pinned (OpenSpec.ofChange fnExactPublicAtSpec)

/-- ITS FALSE NEIGHBOUR: 'it returns false'. Refute it at one input. -/
def fnExactPublicAtWrong : ChangeSpec := { name := "fnExactPublicAt", fn := fun _ => fun
  | [d1, d2, d3] => { results := [.lit (.bool false)], args := [d1, d2, d3] }
  | _ => none }
def FnExactPublicAtWrongFalsely : Prop := fnExactPublicAtRow.holds Try.pinned (OpenSpec.ofChange fnExactPublicAtWrong)

/-- 'laws.FnCollision': WHATEVER THE INPUT: true; the input reads as it did. -/
def fnCollisionSpec : ChangeSpec := { name := "fnCollision", fn := fun _ => fun
  | [d1, d2] => { results := [.lit (.bool true)], args := [d1, d2] }
  | _ => none }
def fnCollisionRow : OpenClaim := { program := "ythjmakpfalhadaa", sum := "7c80628da6757bb946b3c91f403be8db6e8a5b71a55786f7d005b2c33b2dc89a", func := "loop.example/g00348/laws.FnCollision", spec := "fnCollision", unfollowed := true, recurses := true, apart := false }
def FnCollisionSaid : Prop := fnCollisionRow.holds Try.pinned (OpenSpec.ofChange fnCollisionSpec)

/-- ITS FALSE NEIGHBOUR: 'it returns false'. Refute it at one input. -/
def fnCollisionWrong : ChangeSpec := { name := "fnCollision", fn := fun _ => fun
  | [d1, d2] => { results := [.lit (.bool false)], args := [d1, d2] }
  | _ => none }
def FnCollisionWrongFalsely : Prop := fnCollisionRow.holds Try.pinned (OpenSpec.ofChange fnCollisionWrong)

/-- 'laws.FnMatrix': WHATEVER THE INPUT: true; the input reads as it did. -/
def fnMatrixSpec : ChangeSpec := { name := "fnMatrix", fn := fun _ => fun
  | [d1, d2] => { results := [.lit (.bool true)], args := [d1, d2] }
  | _ => none }
def fnMatrixRow : OpenClaim := { program := "ythjmakpfalhadaa", sum := "7c80628da6757bb946b3c91f403be8db6e8a5b71a55786f7d005b2c33b2dc89a", func := "loop.example/g00348/laws.FnMatrix", spec := "fnMatrix", unfollowed := true, recurses := true, apart := false }
def FnMatrixSaid : Prop := fnMatrixRow.holds Try.pinned (OpenSpec.ofChange fnMatrixSpec)

/-- ITS FALSE NEIGHBOUR: 'it returns false'. Refute it at one input. -/
def fnMatrixWrong : ChangeSpec := { name := "fnMatrix", fn := fun _ => fun
  | [d1, d2] => { results := [.lit (.bool false)], args := [d1, d2] }
  | _ => none }
def FnMatrixWrongFalsely : Prop := fnMatrixRow.holds Try.pinned (OpenSpec.ofChange fnMatrixWrong)

/-- 'laws.FnMerkle': WHATEVER THE INPUT: true; the input reads as it did. -/
def fnMerkleSpec : ChangeSpec := { name := "fnMerkle", fn := fun _ => fun
  | [d1, d2] => { results := [.lit (.bool true)], args := [d1, d2] }
  | _ => none }
def fnMerkleRow : OpenClaim := { program := "ythjmakpfalhadaa", sum := "7c80628da6757bb946b3c91f403be8db6e8a5b71a55786f7d005b2c33b2dc89a", func := "loop.example/g00348/laws.FnMerkle", spec := "fnMerkle", unfollowed := true, recurses := true, apart := false }
def FnMerkleSaid : Prop := fnMerkleRow.holds Try.pinned (OpenSpec.ofChange fnMerkleSpec)

/-- ITS FALSE NEIGHBOUR: 'it returns false'. Refute it at one input. -/
def fnMerkleWrong : ChangeSpec := { name := "fnMerkle", fn := fun _ => fun
  | [d1, d2] => { results := [.lit (.bool false)], args := [d1, d2] }
  | _ => none }
def FnMerkleWrongFalsely : Prop := fnMerkleRow.holds Try.pinned (OpenSpec.ofChange fnMerkleWrong)

/-- 'laws.FnExactOpeningBytes': WHATEVER THE INPUT: true; the input reads as it did. -/
def fnExactOpeningBytesSpec : ChangeSpec := { name := "fnExactOpeningBytes", fn := fun _ => fun
  | [d1, d2, d3] => { results := [.lit (.bool true)], args := [d1, d2, d3] }
  | _ => none }
def fnExactOpeningBytesRow : OpenClaim := { program := "ythjmakpfalhadaa", sum := "7c80628da6757bb946b3c91f403be8db6e8a5b71a55786f7d005b2c33b2dc89a", func := "loop.example/g00348/laws.FnExactOpeningBytes", spec := "fnExactOpeningBytes", unfollowed := true, recurses := true, apart := false }
def FnExactOpeningBytesSaid : Prop := fnExactOpeningBytesRow.holds Try.pinned (OpenSpec.ofChange fnExactOpeningBytesSpec)

/-- ITS FALSE NEIGHBOUR: 'it returns false'. Refute it at one input. -/
def fnExactOpeningBytesWrong : ChangeSpec := { name := "fnExactOpeningBytes", fn := fun _ => fun
  | [d1, d2, d3] => { results := [.lit (.bool false)], args := [d1, d2, d3] }
  | _ => none }
def FnExactOpeningBytesWrongFalsely : Prop := fnExactOpeningBytesRow.holds Try.pinned (OpenSpec.ofChange fnExactOpeningBytesWrong)

/- THE SECOND FORM. 'bulk': how many values and letters a reading holds, each counted each time it is reached (what is shared counts as often as it is met; a slice's spare places count too). A statement '..UptoSaid' is the law's where the arguments, and the package variables that the reading takes, are together of bulk at most 1048576: NARROWER than '..Said'. Prove '..Said' where nothing that the law and all that it calls make is longer than what came in: it says more and counts as full. Else prove '..UptoSaid'. A law counts once. -/
mutual
def uptoBulk {H : Type} : DataW H → Nat
  | .lit (.string bytes) => bytes.length + 1
  | .lit _ => 1
  | .nil => 1
  | .ptr d => uptoBulk d + 1
  | .slice elems spare => uptoBulkAll elems + uptoBulkAll spare + 1
  | .agg parts => uptoBulkAll parts + 1
  | .iface _ d => uptoBulk d + 1
  | .map entries => uptoBulkEntries entries + 1
  | .held _ => 1
def uptoBulkAll {H : Type} : List (DataW H) → Nat
  | [] => 0
  | d :: r => uptoBulk d + uptoBulkAll r
def uptoBulkEntries {H : Type} : List (Lit × DataW H) → Nat
  | [] => 0
  | x :: r => uptoBulkEntry x + uptoBulkEntries r
def uptoBulkEntry {H : Type} : Lit × DataW H → Nat
  | (.string bytes, d) => bytes.length + uptoBulk d + 1
  | (_, d) => uptoBulk d + 1
 end
def uptoSmall : (H : Type) → List (DataW H) → Bool := fun _ ds => decide (uptoBulkAll ds ≤ 1048576)
def OpenSpec.upto (s : _root_.Go.ChangeSpec) : _root_.Go.OpenSpec := { _root_.Go.OpenSpec.ofChange s with cond := some uptoSmall }

/-- 'laws.FnPublic', WHERE WHAT IT READS IS OF BULK AT MOST 1048576: true; the input reads as it did. -/
def fnPublicUptoRow : OpenClaim := { program := "ythjmakpfalhadaa", sum := "7c80628da6757bb946b3c91f403be8db6e8a5b71a55786f7d005b2c33b2dc89a", func := "loop.example/g00348/laws.FnPublic", spec := "fnPublic", unfollowed := true, recurses := true, apart := false, narrowed := true }
def FnPublicUptoSaid : Prop := fnPublicUptoRow.holds Try.pinned (OpenSpec.upto fnPublicSpec)

/-- 'laws.FnFoldWord', WHERE WHAT IT READS IS OF BULK AT MOST 1048576: true; the input reads as it did. -/
def fnFoldWordUptoRow : OpenClaim := { program := "ythjmakpfalhadaa", sum := "7c80628da6757bb946b3c91f403be8db6e8a5b71a55786f7d005b2c33b2dc89a", func := "loop.example/g00348/laws.FnFoldWord", spec := "fnFoldWord", unfollowed := true, recurses := true, apart := false, narrowed := true }
def FnFoldWordUptoSaid : Prop := fnFoldWordUptoRow.holds Try.pinned (OpenSpec.upto fnFoldWordSpec)

/-- 'laws.FnExtBytes', WHERE WHAT IT READS IS OF BULK AT MOST 1048576: true; the input reads as it did. -/
def fnExtBytesUptoRow : OpenClaim := { program := "ythjmakpfalhadaa", sum := "7c80628da6757bb946b3c91f403be8db6e8a5b71a55786f7d005b2c33b2dc89a", func := "loop.example/g00348/laws.FnExtBytes", spec := "fnExtBytes", unfollowed := true, recurses := true, apart := false, narrowed := true }
def FnExtBytesUptoSaid : Prop := fnExtBytesUptoRow.holds Try.pinned (OpenSpec.upto fnExtBytesSpec)

/-- 'laws.FnNtt', WHERE WHAT IT READS IS OF BULK AT MOST 1048576: true; the input reads as it did. -/
def fnNttUptoRow : OpenClaim := { program := "ythjmakpfalhadaa", sum := "7c80628da6757bb946b3c91f403be8db6e8a5b71a55786f7d005b2c33b2dc89a", func := "loop.example/g00348/laws.FnNtt", spec := "fnNtt", unfollowed := true, recurses := true, apart := false, narrowed := true }
def FnNttUptoSaid : Prop := fnNttUptoRow.holds Try.pinned (OpenSpec.upto fnNttSpec)

/-- 'laws.FnGrind', WHERE WHAT IT READS IS OF BULK AT MOST 1048576: true; the input reads as it did. -/
def fnGrindUptoRow : OpenClaim := { program := "ythjmakpfalhadaa", sum := "7c80628da6757bb946b3c91f403be8db6e8a5b71a55786f7d005b2c33b2dc89a", func := "loop.example/g00348/laws.FnGrind", spec := "fnGrind", unfollowed := true, recurses := true, apart := false, narrowed := true }
def FnGrindUptoSaid : Prop := fnGrindUptoRow.holds Try.pinned (OpenSpec.upto fnGrindSpec)

/-- 'laws.FnWord', WHERE WHAT IT READS IS OF BULK AT MOST 1048576: true; the input reads as it did. -/
def fnWordUptoRow : OpenClaim := { program := "ythjmakpfalhadaa", sum := "7c80628da6757bb946b3c91f403be8db6e8a5b71a55786f7d005b2c33b2dc89a", func := "loop.example/g00348/laws.FnWord", spec := "fnWord", unfollowed := true, recurses := true, apart := false, narrowed := true }
def FnWordUptoSaid : Prop := fnWordUptoRow.holds Try.pinned (OpenSpec.upto fnWordSpec)

/-- 'laws.FnExactBoundTable', WHERE WHAT IT READS IS OF BULK AT MOST 1048576: true; the input reads as it did. -/
def fnExactBoundTableUptoRow : OpenClaim := { program := "ythjmakpfalhadaa", sum := "7c80628da6757bb946b3c91f403be8db6e8a5b71a55786f7d005b2c33b2dc89a", func := "loop.example/g00348/laws.FnExactBoundTable", spec := "fnExactBoundTable", unfollowed := true, recurses := true, apart := false, narrowed := true }
def FnExactBoundTableUptoSaid : Prop := fnExactBoundTableUptoRow.holds Try.pinned (OpenSpec.upto fnExactBoundTableSpec)

/-- 'laws.FnExactPublicAt', WHERE WHAT IT READS IS OF BULK AT MOST 1048576: true; the input reads as it did. -/
def fnExactPublicAtUptoRow : OpenClaim := { program := "ythjmakpfalhadaa", sum := "7c80628da6757bb946b3c91f403be8db6e8a5b71a55786f7d005b2c33b2dc89a", func := "loop.example/g00348/laws.FnExactPublicAt", spec := "fnExactPublicAt", unfollowed := true, recurses := true, apart := false, narrowed := true }
def FnExactPublicAtUptoSaid : Prop := fnExactPublicAtUptoRow.holds Try.pinned (OpenSpec.upto fnExactPublicAtSpec)

/-- 'laws.FnCollision', WHERE WHAT IT READS IS OF BULK AT MOST 1048576: true; the input reads as it did. -/
def fnCollisionUptoRow : OpenClaim := { program := "ythjmakpfalhadaa", sum := "7c80628da6757bb946b3c91f403be8db6e8a5b71a55786f7d005b2c33b2dc89a", func := "loop.example/g00348/laws.FnCollision", spec := "fnCollision", unfollowed := true, recurses := true, apart := false, narrowed := true }
def FnCollisionUptoSaid : Prop := fnCollisionUptoRow.holds Try.pinned (OpenSpec.upto fnCollisionSpec)

/-- 'laws.FnMatrix', WHERE WHAT IT READS IS OF BULK AT MOST 1048576: true; the input reads as it did. -/
def fnMatrixUptoRow : OpenClaim := { program := "ythjmakpfalhadaa", sum := "7c80628da6757bb946b3c91f403be8db6e8a5b71a55786f7d005b2c33b2dc89a", func := "loop.example/g00348/laws.FnMatrix", spec := "fnMatrix", unfollowed := true, recurses := true, apart := false, narrowed := true }
def FnMatrixUptoSaid : Prop := fnMatrixUptoRow.holds Try.pinned (OpenSpec.upto fnMatrixSpec)

/-- 'laws.FnMerkle', WHERE WHAT IT READS IS OF BULK AT MOST 1048576: true; the input reads as it did. -/
def fnMerkleUptoRow : OpenClaim := { program := "ythjmakpfalhadaa", sum := "7c80628da6757bb946b3c91f403be8db6e8a5b71a55786f7d005b2c33b2dc89a", func := "loop.example/g00348/laws.FnMerkle", spec := "fnMerkle", unfollowed := true, recurses := true, apart := false, narrowed := true }
def FnMerkleUptoSaid : Prop := fnMerkleUptoRow.holds Try.pinned (OpenSpec.upto fnMerkleSpec)

/-- 'laws.FnExactOpeningBytes', WHERE WHAT IT READS IS OF BULK AT MOST 1048576: true; the input reads as it did. -/
def fnExactOpeningBytesUptoRow : OpenClaim := { program := "ythjmakpfalhadaa", sum := "7c80628da6757bb946b3c91f403be8db6e8a5b71a55786f7d005b2c33b2dc89a", func := "loop.example/g00348/laws.FnExactOpeningBytes", spec := "fnExactOpeningBytes", unfollowed := true, recurses := true, apart := false, narrowed := true }
def FnExactOpeningBytesUptoSaid : Prop := fnExactOpeningBytesUptoRow.holds Try.pinned (OpenSpec.upto fnExactOpeningBytesSpec)

end Rows
end Go.Proofs.Ythjmakpfalhadaa
