/-
  No cell of these rows narrows 'for every input' (looked for: loops, veiled, ifaces, maps, wideKeys, modest, calm, conditions, laid).
  DERIVED. THE GIVEN ROWS OF THIS SEAT. 7 by the template 'for every input the law returns true; each argument reads behind the call as it read before'; 0 by the template 'total and deterministic' (their statements: YtjeihkabobjlbaaTotals.lean).
  GIVEN WITH THE SEED: the statements are not yours to turn. If you find one false, say at which input.
  Laid BY PROGRAM, IN A SANDBOX (cutbox-rows.mjs): the forced cells as the released guide's own fill.sh prints them over the translation 8e54ef1ec80b69ac… (all of the seat's roots in one cut). By AI agents, Wed Nov 11 2026. No macro, syntax, notation, axiom, sorry.
-/
import Derived.Test.YtjeihkabobjlbaaChecked
import GoSem.Claim
import GoSem.ClaimJoined
import GoSem.ClaimMapViews
import Derived.JoinedTies
import Derived.KernelRfl
namespace Go.Proofs.Ytjeihkabobjlbaa
/- THE CELL 'sum', in the pinned program and in every row, IS THE sha256 OF THE DUMP (.gsa) THAT YtjeihkabobjlbaaProg.lean LOADS. Nothing in Lean hashes anything: it is a label: what it is worth is what the hold of that sum in a sandbox is worth. -/
noncomputable def Try.pinned : Pinned := { name := "ytjeihkabobjlbaa", sum := "8e54ef1ec80b69ac338d58222000f5e3b2e48356c9002043740f7dfab7d2df44", checked := Try.checked }
namespace Rows
def none {H : Type} : Left H := { results := [], args := [] }

/-- 'laws.FnExactQueryBits': WHATEVER THE INPUT: true; the input reads as it did. -/
def fnExactQueryBitsSpec : ChangeSpec := { name := "fnExactQueryBits", fn := fun _ => fun
  | [d] => { results := [.lit (.bool true)], args := [d] }
  | _ => none }
def fnExactQueryBitsRow : OpenClaim := { program := "ytjeihkabobjlbaa", sum := "8e54ef1ec80b69ac338d58222000f5e3b2e48356c9002043740f7dfab7d2df44", func := "loop.example/g00348/laws.FnExactQueryBits", spec := "fnExactQueryBits", apart := false }
def FnExactQueryBitsSaid : Prop := fnExactQueryBitsRow.holds Try.pinned (OpenSpec.ofChange fnExactQueryBitsSpec)

/-- ITS FALSE NEIGHBOUR: 'it returns false'. Refute it at one input. -/
def fnExactQueryBitsWrong : ChangeSpec := { name := "fnExactQueryBits", fn := fun _ => fun
  | [d] => { results := [.lit (.bool false)], args := [d] }
  | _ => none }
def FnExactQueryBitsWrongFalsely : Prop := fnExactQueryBitsRow.holds Try.pinned (OpenSpec.ofChange fnExactQueryBitsWrong)

/-- 'laws.FnExactSecure': WHATEVER THE INPUT: true; the input reads as it did. -/
def fnExactSecureSpec : ChangeSpec := { name := "fnExactSecure", fn := fun _ => fun
  | [d1, d2] => { results := [.lit (.bool true)], args := [d1, d2] }
  | _ => none }
def fnExactSecureRow : OpenClaim := { program := "ytjeihkabobjlbaa", sum := "8e54ef1ec80b69ac338d58222000f5e3b2e48356c9002043740f7dfab7d2df44", func := "loop.example/g00348/laws.FnExactSecure", spec := "fnExactSecure", apart := false }
def FnExactSecureSaid : Prop := fnExactSecureRow.holds Try.pinned (OpenSpec.ofChange fnExactSecureSpec)

/-- ITS FALSE NEIGHBOUR: 'it returns false'. Refute it at one input. -/
def fnExactSecureWrong : ChangeSpec := { name := "fnExactSecure", fn := fun _ => fun
  | [d1, d2] => { results := [.lit (.bool false)], args := [d1, d2] }
  | _ => none }
def FnExactSecureWrongFalsely : Prop := fnExactSecureRow.holds Try.pinned (OpenSpec.ofChange fnExactSecureWrong)

/-- 'laws.FnExactSelect': WHATEVER THE INPUT: true; the input reads as it did. -/
def fnExactSelectSpec : ChangeSpec := { name := "fnExactSelect", fn := fun _ => fun
  | [d1, d2, d3] => { results := [.lit (.bool true)], args := [d1, d2, d3] }
  | _ => none }
def fnExactSelectRow : OpenClaim := { program := "ytjeihkabobjlbaa", sum := "8e54ef1ec80b69ac338d58222000f5e3b2e48356c9002043740f7dfab7d2df44", func := "loop.example/g00348/laws.FnExactSelect", spec := "fnExactSelect", apart := false }
def FnExactSelectSaid : Prop := fnExactSelectRow.holds Try.pinned (OpenSpec.ofChange fnExactSelectSpec)

/-- ITS FALSE NEIGHBOUR: 'it returns false'. Refute it at one input. -/
def fnExactSelectWrong : ChangeSpec := { name := "fnExactSelect", fn := fun _ => fun
  | [d1, d2, d3] => { results := [.lit (.bool false)], args := [d1, d2, d3] }
  | _ => none }
def FnExactSelectWrongFalsely : Prop := fnExactSelectRow.holds Try.pinned (OpenSpec.ofChange fnExactSelectWrong)

/-- 'laws.FnSelect': WHATEVER THE INPUT: true; the input reads as it did. -/
def fnSelectSpec : ChangeSpec := { name := "fnSelect", fn := fun _ => fun
  | [d1, d2] => { results := [.lit (.bool true)], args := [d1, d2] }
  | _ => none }
def fnSelectRow : OpenClaim := { program := "ytjeihkabobjlbaa", sum := "8e54ef1ec80b69ac338d58222000f5e3b2e48356c9002043740f7dfab7d2df44", func := "loop.example/g00348/laws.FnSelect", spec := "fnSelect", apart := false }
def FnSelectSaid : Prop := fnSelectRow.holds Try.pinned (OpenSpec.ofChange fnSelectSpec)

/-- ITS FALSE NEIGHBOUR: 'it returns false'. Refute it at one input. -/
def fnSelectWrong : ChangeSpec := { name := "fnSelect", fn := fun _ => fun
  | [d1, d2] => { results := [.lit (.bool false)], args := [d1, d2] }
  | _ => none }
def FnSelectWrongFalsely : Prop := fnSelectRow.holds Try.pinned (OpenSpec.ofChange fnSelectWrong)

/-- 'laws.FnWork': WHATEVER THE INPUT: true; the input reads as it did. -/
def fnWorkSpec : ChangeSpec := { name := "fnWork", fn := fun _ => fun
  | [d1, d2] => { results := [.lit (.bool true)], args := [d1, d2] }
  | _ => none }
def fnWorkRow : OpenClaim := { program := "ytjeihkabobjlbaa", sum := "8e54ef1ec80b69ac338d58222000f5e3b2e48356c9002043740f7dfab7d2df44", func := "loop.example/g00348/laws.FnWork", spec := "fnWork", unfollowed := true, recurses := true, apart := false }
def FnWorkSaid : Prop := fnWorkRow.holds Try.pinned (OpenSpec.ofChange fnWorkSpec)

/-- ITS FALSE NEIGHBOUR: 'it returns false'. Refute it at one input. -/
def fnWorkWrong : ChangeSpec := { name := "fnWork", fn := fun _ => fun
  | [d1, d2] => { results := [.lit (.bool false)], args := [d1, d2] }
  | _ => none }
def FnWorkWrongFalsely : Prop := fnWorkRow.holds Try.pinned (OpenSpec.ofChange fnWorkWrong)

/-- 'laws.FnExactProofSize': WHATEVER THE INPUT: true; the input reads as it did. -/
def fnExactProofSizeSpec : ChangeSpec := { name := "fnExactProofSize", fn := fun _ => fun
  | [d1, d2] => { results := [.lit (.bool true)], args := [d1, d2] }
  | _ => none }
def fnExactProofSizeRow : OpenClaim := { program := "ytjeihkabobjlbaa", sum := "8e54ef1ec80b69ac338d58222000f5e3b2e48356c9002043740f7dfab7d2df44", func := "loop.example/g00348/laws.FnExactProofSize", spec := "fnExactProofSize", apart := false }
def FnExactProofSizeSaid : Prop := fnExactProofSizeRow.holds Try.pinned (OpenSpec.ofChange fnExactProofSizeSpec)

/-- ITS FALSE NEIGHBOUR: 'it returns false'. Refute it at one input. -/
def fnExactProofSizeWrong : ChangeSpec := { name := "fnExactProofSize", fn := fun _ => fun
  | [d1, d2] => { results := [.lit (.bool false)], args := [d1, d2] }
  | _ => none }
def FnExactProofSizeWrongFalsely : Prop := fnExactProofSizeRow.holds Try.pinned (OpenSpec.ofChange fnExactProofSizeWrong)

/-- 'laws.FnExactWorkOf': WHATEVER THE INPUT: true; the input reads as it did. -/
def fnExactWorkOfSpec : ChangeSpec := { name := "fnExactWorkOf", fn := fun _ => fun
  | [d1, d2] => { results := [.lit (.bool true)], args := [d1, d2] }
  | _ => none }
def fnExactWorkOfRow : OpenClaim := { program := "ytjeihkabobjlbaa", sum := "8e54ef1ec80b69ac338d58222000f5e3b2e48356c9002043740f7dfab7d2df44", func := "loop.example/g00348/laws.FnExactWorkOf", spec := "fnExactWorkOf", unfollowed := true, recurses := true, apart := false }
def FnExactWorkOfSaid : Prop := fnExactWorkOfRow.holds Try.pinned (OpenSpec.ofChange fnExactWorkOfSpec)

/-- ITS FALSE NEIGHBOUR: 'it returns false'. Refute it at one input. -/
def fnExactWorkOfWrong : ChangeSpec := { name := "fnExactWorkOf", fn := fun _ => fun
  | [d1, d2] => { results := [.lit (.bool false)], args := [d1, d2] }
  | _ => none }
def FnExactWorkOfWrongFalsely : Prop := fnExactWorkOfRow.holds Try.pinned (OpenSpec.ofChange fnExactWorkOfWrong)

/- THE SECOND FORM. 'bulk': how many values and letters a reading holds, each counted each time it is reached (what is shared counts as often as it is met; a slice's spare places count too). A statement '..UptoSaid' is the law's where the arguments, and the package variables that the reading takes, are together of bulk at most 1048576: NARROWER than '..Said'. Prove '..Said' where nothing that the law and all that it calls make is longer than what came in: it says more and counts as full. Else prove '..UptoSaid'. A law counts once. -/
mutual
def uptoBulk {H : Type} : DataW H → Nat
  | .lit (.string bytes) => bytes.length + 1
  | .lit _ => 1
  | .nil => 1
  | .ptr d => uptoBulk d + 1
  | .slice elems spare => uptoBulkAll elems + uptoBulkAll spare + 1
  | .agg parts => uptoBulkAll parts + 1
  | .iface _ d => uptoBulk d + 1
  | .map entries => uptoBulkEntries entries + 1
  | .held _ => 1
def uptoBulkAll {H : Type} : List (DataW H) → Nat
  | [] => 0
  | d :: r => uptoBulk d + uptoBulkAll r
def uptoBulkEntries {H : Type} : List (Lit × DataW H) → Nat
  | [] => 0
  | x :: r => uptoBulkEntry x + uptoBulkEntries r
def uptoBulkEntry {H : Type} : Lit × DataW H → Nat
  | (.string bytes, d) => bytes.length + uptoBulk d + 1
  | (_, d) => uptoBulk d + 1
 end
def uptoSmall : (H : Type) → List (DataW H) → Bool := fun _ ds => decide (uptoBulkAll ds ≤ 1048576)
def OpenSpec.upto (s : _root_.Go.ChangeSpec) : _root_.Go.OpenSpec := { _root_.Go.OpenSpec.ofChange s with cond := some uptoSmall }

/-- 'laws.FnExactQueryBits', WHERE WHAT IT READS IS OF BULK AT MOST 1048576: true; the input reads as it did. -/
def fnExactQueryBitsUptoRow : OpenClaim := { program := "ytjeihkabobjlbaa", sum := "8e54ef1ec80b69ac338d58222000f5e3b2e48356c9002043740f7dfab7d2df44", func := "loop.example/g00348/laws.FnExactQueryBits", spec := "fnExactQueryBits", apart := false, narrowed := true }
def FnExactQueryBitsUptoSaid : Prop := fnExactQueryBitsUptoRow.holds Try.pinned (OpenSpec.upto fnExactQueryBitsSpec)

/-- 'laws.FnExactSecure', WHERE WHAT IT READS IS OF BULK AT MOST 1048576: true; the input reads as it did. -/
def fnExactSecureUptoRow : OpenClaim := { program := "ytjeihkabobjlbaa", sum := "8e54ef1ec80b69ac338d58222000f5e3b2e48356c9002043740f7dfab7d2df44", func := "loop.example/g00348/laws.FnExactSecure", spec := "fnExactSecure", apart := false, narrowed := true }
def FnExactSecureUptoSaid : Prop := fnExactSecureUptoRow.holds Try.pinned (OpenSpec.upto fnExactSecureSpec)

/-- 'laws.FnExactSelect', WHERE WHAT IT READS IS OF BULK AT MOST 1048576: true; the input reads as it did. -/
def fnExactSelectUptoRow : OpenClaim := { program := "ytjeihkabobjlbaa", sum := "8e54ef1ec80b69ac338d58222000f5e3b2e48356c9002043740f7dfab7d2df44", func := "loop.example/g00348/laws.FnExactSelect", spec := "fnExactSelect", apart := false, narrowed := true }
def FnExactSelectUptoSaid : Prop := fnExactSelectUptoRow.holds Try.pinned (OpenSpec.upto fnExactSelectSpec)

/-- 'laws.FnSelect', WHERE WHAT IT READS IS OF BULK AT MOST 1048576: true; the input reads as it did. -/
def fnSelectUptoRow : OpenClaim := { program := "ytjeihkabobjlbaa", sum := "8e54ef1ec80b69ac338d58222000f5e3b2e48356c9002043740f7dfab7d2df44", func := "loop.example/g00348/laws.FnSelect", spec := "fnSelect", apart := false, narrowed := true }
def FnSelectUptoSaid : Prop := fnSelectUptoRow.holds Try.pinned (OpenSpec.upto fnSelectSpec)

/-- 'laws.FnWork', WHERE WHAT IT READS IS OF BULK AT MOST 1048576: true; the input reads as it did. -/
def fnWorkUptoRow : OpenClaim := { program := "ytjeihkabobjlbaa", sum := "8e54ef1ec80b69ac338d58222000f5e3b2e48356c9002043740f7dfab7d2df44", func := "loop.example/g00348/laws.FnWork", spec := "fnWork", unfollowed := true, recurses := true, apart := false, narrowed := true }
def FnWorkUptoSaid : Prop := fnWorkUptoRow.holds Try.pinned (OpenSpec.upto fnWorkSpec)

/-- 'laws.FnExactProofSize', WHERE WHAT IT READS IS OF BULK AT MOST 1048576: true; the input reads as it did. -/
def fnExactProofSizeUptoRow : OpenClaim := { program := "ytjeihkabobjlbaa", sum := "8e54ef1ec80b69ac338d58222000f5e3b2e48356c9002043740f7dfab7d2df44", func := "loop.example/g00348/laws.FnExactProofSize", spec := "fnExactProofSize", apart := false, narrowed := true }
def FnExactProofSizeUptoSaid : Prop := fnExactProofSizeUptoRow.holds Try.pinned (OpenSpec.upto fnExactProofSizeSpec)

/-- 'laws.FnExactWorkOf', WHERE WHAT IT READS IS OF BULK AT MOST 1048576: true; the input reads as it did. -/
def fnExactWorkOfUptoRow : OpenClaim := { program := "ytjeihkabobjlbaa", sum := "8e54ef1ec80b69ac338d58222000f5e3b2e48356c9002043740f7dfab7d2df44", func := "loop.example/g00348/laws.FnExactWorkOf", spec := "fnExactWorkOf", unfollowed := true, recurses := true, apart := false, narrowed := true }
def FnExactWorkOfUptoSaid : Prop := fnExactWorkOfUptoRow.holds Try.pinned (OpenSpec.upto fnExactWorkOfSpec)

end Rows
end Go.Proofs.Ytjeihkabobjlbaa
