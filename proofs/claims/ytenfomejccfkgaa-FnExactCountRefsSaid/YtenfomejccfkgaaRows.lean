/-
  No cell of these rows narrows 'for every input' (looked for: loops, veiled, ifaces, maps, wideKeys, modest, calm, conditions, laid).
  DERIVED. THE GIVEN ROWS OF THIS SEAT. 10 by the template 'for every input the law returns true; each argument reads behind the call as it read before'; 0 by the template 'total and deterministic' (their statements: YtenfomejccfkgaaTotals.lean).
  GIVEN WITH THE SEED: the statements are not yours to turn. If you find one false, say at which input.
  Laid BY PROGRAM, IN A SANDBOX (cutbox-rows.mjs): the forced cells as the released guide's own fill.sh prints them over the translation 6d9e6bc2e71675e7… (all of the seat's roots in one cut). By AI agents, Wed Nov 11 2026. No macro, syntax, notation, axiom, sorry.
-/
import Derived.Test.YtenfomejccfkgaaChecked
import GoSem.Claim
import GoSem.ClaimJoined
import GoSem.ClaimMapViews
import Derived.JoinedTies
import Derived.KernelRfl
namespace Go.Proofs.Ytenfomejccfkgaa
/- THE CELL 'sum', in the pinned program and in every row, IS THE sha256 OF THE DUMP (.gsa) THAT YtenfomejccfkgaaProg.lean LOADS. Nothing in Lean hashes anything: it is a label: what it is worth is what the hold of that sum in a sandbox is worth. -/
noncomputable def Try.pinned : Pinned := { name := "ytenfomejccfkgaa", sum := "6d9e6bc2e71675e7de3be7eb32f1c9e0d2d0491957fb1247801c2b6ed98f2ce9", checked := Try.checked }
namespace Rows
def none {H : Type} : Left H := { results := [], args := [] }

/-- 'laws.FnExactTreeOK': WHATEVER THE INPUT: true; the input reads as it did. -/
def fnExactTreeOKSpec : ChangeSpec := { name := "fnExactTreeOK", fn := fun _ => fun
  | [d1, d2] => { results := [.lit (.bool true)], args := [d1, d2] }
  | _ => none }
def fnExactTreeOKRow : OpenClaim := { program := "ytenfomejccfkgaa", sum := "6d9e6bc2e71675e7de3be7eb32f1c9e0d2d0491957fb1247801c2b6ed98f2ce9", func := "loop.example/g00340/laws.FnExactTreeOK", spec := "fnExactTreeOK", recurses := true, apart := false }
def FnExactTreeOKSaid : Prop := fnExactTreeOKRow.holds Try.pinned (OpenSpec.ofChange fnExactTreeOKSpec)

/-- ITS FALSE NEIGHBOUR: 'it returns false'. Refute it at one input. -/
def fnExactTreeOKWrong : ChangeSpec := { name := "fnExactTreeOK", fn := fun _ => fun
  | [d1, d2] => { results := [.lit (.bool false)], args := [d1, d2] }
  | _ => none }
def FnExactTreeOKWrongFalsely : Prop := fnExactTreeOKRow.holds Try.pinned (OpenSpec.ofChange fnExactTreeOKWrong)

/-- 'laws.FnExactTreePairs': WHATEVER THE INPUT: true; the input reads as it did. -/
def fnExactTreePairsSpec : ChangeSpec := { name := "fnExactTreePairs", fn := fun _ => fun
  | [d1, d2] => { results := [.lit (.bool true)], args := [d1, d2] }
  | _ => none }
def fnExactTreePairsRow : OpenClaim := { program := "ytenfomejccfkgaa", sum := "6d9e6bc2e71675e7de3be7eb32f1c9e0d2d0491957fb1247801c2b6ed98f2ce9", func := "loop.example/g00340/laws.FnExactTreePairs", spec := "fnExactTreePairs", recurses := true, apart := false }
def FnExactTreePairsSaid : Prop := fnExactTreePairsRow.holds Try.pinned (OpenSpec.ofChange fnExactTreePairsSpec)

/-- ITS FALSE NEIGHBOUR: 'it returns false'. Refute it at one input. -/
def fnExactTreePairsWrong : ChangeSpec := { name := "fnExactTreePairs", fn := fun _ => fun
  | [d1, d2] => { results := [.lit (.bool false)], args := [d1, d2] }
  | _ => none }
def FnExactTreePairsWrongFalsely : Prop := fnExactTreePairsRow.holds Try.pinned (OpenSpec.ofChange fnExactTreePairsWrong)

/-- 'laws.FnExactTreeGet': WHATEVER THE INPUT: true; the input reads as it did. -/
def fnExactTreeGetSpec : ChangeSpec := { name := "fnExactTreeGet", fn := fun _ => fun
  | [d1, d2, d3] => { results := [.lit (.bool true)], args := [d1, d2, d3] }
  | _ => none }
def fnExactTreeGetRow : OpenClaim := { program := "ytenfomejccfkgaa", sum := "6d9e6bc2e71675e7de3be7eb32f1c9e0d2d0491957fb1247801c2b6ed98f2ce9", func := "loop.example/g00340/laws.FnExactTreeGet", spec := "fnExactTreeGet", inPlace := ["internal/bytealg.abigen_runtime_cmpstring"], unfollowed := true, recurses := true, apart := false }
def FnExactTreeGetSaid : Prop := fnExactTreeGetRow.holds Try.pinned (OpenSpec.ofChange fnExactTreeGetSpec)

/-- ITS FALSE NEIGHBOUR: 'it returns false'. Refute it at one input. -/
def fnExactTreeGetWrong : ChangeSpec := { name := "fnExactTreeGet", fn := fun _ => fun
  | [d1, d2, d3] => { results := [.lit (.bool false)], args := [d1, d2, d3] }
  | _ => none }
def FnExactTreeGetWrongFalsely : Prop := fnExactTreeGetRow.holds Try.pinned (OpenSpec.ofChange fnExactTreeGetWrong)

/-- 'laws.FnExactTreePages': WHATEVER THE INPUT: true; the input reads as it did. -/
def fnExactTreePagesSpec : ChangeSpec := { name := "fnExactTreePages", fn := fun _ => fun
  | [d1, d2] => { results := [.lit (.bool true)], args := [d1, d2] }
  | _ => none }
def fnExactTreePagesRow : OpenClaim := { program := "ytenfomejccfkgaa", sum := "6d9e6bc2e71675e7de3be7eb32f1c9e0d2d0491957fb1247801c2b6ed98f2ce9", func := "loop.example/g00340/laws.FnExactTreePages", spec := "fnExactTreePages", recurses := true, apart := false }
def FnExactTreePagesSaid : Prop := fnExactTreePagesRow.holds Try.pinned (OpenSpec.ofChange fnExactTreePagesSpec)

/-- ITS FALSE NEIGHBOUR: 'it returns false'. Refute it at one input. -/
def fnExactTreePagesWrong : ChangeSpec := { name := "fnExactTreePages", fn := fun _ => fun
  | [d1, d2] => { results := [.lit (.bool false)], args := [d1, d2] }
  | _ => none }
def FnExactTreePagesWrongFalsely : Prop := fnExactTreePagesRow.holds Try.pinned (OpenSpec.ofChange fnExactTreePagesWrong)

/-- 'laws.FnExactNodeBytes': WHATEVER THE INPUT: true; the input reads as it did. -/
def fnExactNodeBytesSpec : ChangeSpec := { name := "fnExactNodeBytes", fn := fun _ => fun
  | [d] => { results := [.lit (.bool true)], args := [d] }
  | _ => none }
def fnExactNodeBytesRow : OpenClaim := { program := "ytenfomejccfkgaa", sum := "6d9e6bc2e71675e7de3be7eb32f1c9e0d2d0491957fb1247801c2b6ed98f2ce9", func := "loop.example/g00340/laws.FnExactNodeBytes", spec := "fnExactNodeBytes", inPlace := ["internal/abi.NoEscape"], apart := false }
def FnExactNodeBytesSaid : Prop := fnExactNodeBytesRow.holds Try.pinned (OpenSpec.ofChange fnExactNodeBytesSpec)

/-- ITS FALSE NEIGHBOUR: 'it returns false'. Refute it at one input. -/
def fnExactNodeBytesWrong : ChangeSpec := { name := "fnExactNodeBytes", fn := fun _ => fun
  | [d] => { results := [.lit (.bool false)], args := [d] }
  | _ => none }
def FnExactNodeBytesWrongFalsely : Prop := fnExactNodeBytesRow.holds Try.pinned (OpenSpec.ofChange fnExactNodeBytesWrong)

/-- 'laws.FnExactCountRefs': WHATEVER THE INPUT: true; the input reads as it did. -/
def fnExactCountRefsSpec : ChangeSpec := { name := "fnExactCountRefs", fn := fun _ => fun
  | [d1, d2] => { results := [.lit (.bool true)], args := [d1, d2] }
  | _ => none }
def fnExactCountRefsRow : OpenClaim := { program := "ytenfomejccfkgaa", sum := "6d9e6bc2e71675e7de3be7eb32f1c9e0d2d0491957fb1247801c2b6ed98f2ce9", func := "loop.example/g00340/laws.FnExactCountRefs", spec := "fnExactCountRefs", unfollowed := true, recurses := true, apart := false }
def FnExactCountRefsSaid : Prop := fnExactCountRefsRow.holds Try.pinned (OpenSpec.ofChange fnExactCountRefsSpec)

/-- ITS FALSE NEIGHBOUR: 'it returns false'. Refute it at one input. -/
def fnExactCountRefsWrong : ChangeSpec := { name := "fnExactCountRefs", fn := fun _ => fun
  | [d1, d2] => { results := [.lit (.bool false)], args := [d1, d2] }
  | _ => none }
def FnExactCountRefsWrongFalsely : Prop := fnExactCountRefsRow.holds Try.pinned (OpenSpec.ofChange fnExactCountRefsWrong)

/-- 'laws.FnRefs': WHATEVER THE INPUT: true; the input reads as it did. -/
def fnRefsSpec : ChangeSpec := { name := "fnRefs", fn := fun _ => fun
  | [d] => { results := [.lit (.bool true)], args := [d] }
  | _ => none }
def fnRefsRow : OpenClaim := { program := "ytenfomejccfkgaa", sum := "6d9e6bc2e71675e7de3be7eb32f1c9e0d2d0491957fb1247801c2b6ed98f2ce9", func := "loop.example/g00340/laws.FnRefs", spec := "fnRefs", unfollowed := true, recurses := true, apart := false }
def FnRefsSaid : Prop := fnRefsRow.holds Try.pinned (OpenSpec.ofChange fnRefsSpec)

/-- ITS FALSE NEIGHBOUR: 'it returns false'. Refute it at one input. -/
def fnRefsWrong : ChangeSpec := { name := "fnRefs", fn := fun _ => fun
  | [d] => { results := [.lit (.bool false)], args := [d] }
  | _ => none }
def FnRefsWrongFalsely : Prop := fnRefsRow.holds Try.pinned (OpenSpec.ofChange fnRefsWrong)

/-- 'laws.FnTree': WHATEVER THE INPUT: true; the input reads as it did. -/
def fnTreeSpec : ChangeSpec := { name := "fnTree", fn := fun _ => fun
  | [d1, d2] => { results := [.lit (.bool true)], args := [d1, d2] }
  | _ => none }
def fnTreeRow : OpenClaim := { program := "ytenfomejccfkgaa", sum := "6d9e6bc2e71675e7de3be7eb32f1c9e0d2d0491957fb1247801c2b6ed98f2ce9", func := "loop.example/g00340/laws.FnTree", spec := "fnTree", inPlace := ["internal/bytealg.abigen_runtime_cmpstring", "slices.overlaps[loop.example/g00340/impl.Pair]"], unfollowed := true, recurses := true, apart := false }
def FnTreeSaid : Prop := fnTreeRow.holds Try.pinned (OpenSpec.ofChange fnTreeSpec)

/-- ITS FALSE NEIGHBOUR: 'it returns false'. Refute it at one input. -/
def fnTreeWrong : ChangeSpec := { name := "fnTree", fn := fun _ => fun
  | [d1, d2] => { results := [.lit (.bool false)], args := [d1, d2] }
  | _ => none }
def FnTreeWrongFalsely : Prop := fnTreeRow.holds Try.pinned (OpenSpec.ofChange fnTreeWrong)

/-- 'laws.FnTreeDrop': WHATEVER THE INPUT: true; the input reads as it did. -/
def fnTreeDropSpec : ChangeSpec := { name := "fnTreeDrop", fn := fun _ => fun
  | [d1, d2] => { results := [.lit (.bool true)], args := [d1, d2] }
  | _ => none }
def fnTreeDropRow : OpenClaim := { program := "ytenfomejccfkgaa", sum := "6d9e6bc2e71675e7de3be7eb32f1c9e0d2d0491957fb1247801c2b6ed98f2ce9", func := "loop.example/g00340/laws.FnTreeDrop", spec := "fnTreeDrop", inPlace := ["internal/bytealg.abigen_runtime_cmpstring"], unfollowed := true, recurses := true, apart := false }
def FnTreeDropSaid : Prop := fnTreeDropRow.holds Try.pinned (OpenSpec.ofChange fnTreeDropSpec)

/-- ITS FALSE NEIGHBOUR: 'it returns false'. Refute it at one input. -/
def fnTreeDropWrong : ChangeSpec := { name := "fnTreeDrop", fn := fun _ => fun
  | [d1, d2] => { results := [.lit (.bool false)], args := [d1, d2] }
  | _ => none }
def FnTreeDropWrongFalsely : Prop := fnTreeDropRow.holds Try.pinned (OpenSpec.ofChange fnTreeDropWrong)

/-- 'laws.FnExactSuperBytes': WHATEVER THE INPUT: true; the input reads as it did. -/
def fnExactSuperBytesSpec : ChangeSpec := { name := "fnExactSuperBytes", fn := fun _ => fun
  | [d] => { results := [.lit (.bool true)], args := [d] }
  | _ => none }
def fnExactSuperBytesRow : OpenClaim := { program := "ytenfomejccfkgaa", sum := "6d9e6bc2e71675e7de3be7eb32f1c9e0d2d0491957fb1247801c2b6ed98f2ce9", func := "loop.example/g00340/laws.FnExactSuperBytes", spec := "fnExactSuperBytes", inPlace := ["internal/abi.NoEscape"], apart := false }
def FnExactSuperBytesSaid : Prop := fnExactSuperBytesRow.holds Try.pinned (OpenSpec.ofChange fnExactSuperBytesSpec)

/-- ITS FALSE NEIGHBOUR: 'it returns false'. Refute it at one input. -/
def fnExactSuperBytesWrong : ChangeSpec := { name := "fnExactSuperBytes", fn := fun _ => fun
  | [d] => { results := [.lit (.bool false)], args := [d] }
  | _ => none }
def FnExactSuperBytesWrongFalsely : Prop := fnExactSuperBytesRow.holds Try.pinned (OpenSpec.ofChange fnExactSuperBytesWrong)

/- THE SECOND FORM. 'bulk': how many values and letters a reading holds, each counted each time it is reached (what is shared counts as often as it is met; a slice's spare places count too). A statement '..UptoSaid' is the law's where the arguments, and the package variables that the reading takes, are together of bulk at most 1048576: NARROWER than '..Said'. Prove '..Said' where nothing that the law and all that it calls make is longer than what came in: it says more and counts as full. Else prove '..UptoSaid'. A law counts once. -/
mutual
def uptoBulk {H : Type} : DataW H → Nat
  | .lit (.string bytes) => bytes.length + 1
  | .lit _ => 1
  | .nil => 1
  | .ptr d => uptoBulk d + 1
  | .slice elems spare => uptoBulkAll elems + uptoBulkAll spare + 1
  | .agg parts => uptoBulkAll parts + 1
  | .iface _ d => uptoBulk d + 1
  | .map entries => uptoBulkEntries entries + 1
  | .held _ => 1
def uptoBulkAll {H : Type} : List (DataW H) → Nat
  | [] => 0
  | d :: r => uptoBulk d + uptoBulkAll r
def uptoBulkEntries {H : Type} : List (Lit × DataW H) → Nat
  | [] => 0
  | x :: r => uptoBulkEntry x + uptoBulkEntries r
def uptoBulkEntry {H : Type} : Lit × DataW H → Nat
  | (.string bytes, d) => bytes.length + uptoBulk d + 1
  | (_, d) => uptoBulk d + 1
 end
def uptoSmall : (H : Type) → List (DataW H) → Bool := fun _ ds => decide (uptoBulkAll ds ≤ 1048576)
def OpenSpec.upto (s : _root_.Go.ChangeSpec) : _root_.Go.OpenSpec := { _root_.Go.OpenSpec.ofChange s with cond := some uptoSmall }

/-- 'laws.FnExactTreeOK', WHERE WHAT IT READS IS OF BULK AT MOST 1048576: true; the input reads as it did. -/
def fnExactTreeOKUptoRow : OpenClaim := { program := "ytenfomejccfkgaa", sum := "6d9e6bc2e71675e7de3be7eb32f1c9e0d2d0491957fb1247801c2b6ed98f2ce9", func := "loop.example/g00340/laws.FnExactTreeOK", spec := "fnExactTreeOK", recurses := true, apart := false, narrowed := true }
def FnExactTreeOKUptoSaid : Prop := fnExactTreeOKUptoRow.holds Try.pinned (OpenSpec.upto fnExactTreeOKSpec)

/-- 'laws.FnExactTreePairs', WHERE WHAT IT READS IS OF BULK AT MOST 1048576: true; the input reads as it did. -/
def fnExactTreePairsUptoRow : OpenClaim := { program := "ytenfomejccfkgaa", sum := "6d9e6bc2e71675e7de3be7eb32f1c9e0d2d0491957fb1247801c2b6ed98f2ce9", func := "loop.example/g00340/laws.FnExactTreePairs", spec := "fnExactTreePairs", recurses := true, apart := false, narrowed := true }
def FnExactTreePairsUptoSaid : Prop := fnExactTreePairsUptoRow.holds Try.pinned (OpenSpec.upto fnExactTreePairsSpec)

/-- 'laws.FnExactTreeGet', WHERE WHAT IT READS IS OF BULK AT MOST 1048576: true; the input reads as it did. -/
def fnExactTreeGetUptoRow : OpenClaim := { program := "ytenfomejccfkgaa", sum := "6d9e6bc2e71675e7de3be7eb32f1c9e0d2d0491957fb1247801c2b6ed98f2ce9", func := "loop.example/g00340/laws.FnExactTreeGet", spec := "fnExactTreeGet", inPlace := ["internal/bytealg.abigen_runtime_cmpstring"], unfollowed := true, recurses := true, apart := false, narrowed := true }
def FnExactTreeGetUptoSaid : Prop := fnExactTreeGetUptoRow.holds Try.pinned (OpenSpec.upto fnExactTreeGetSpec)

/-- 'laws.FnExactTreePages', WHERE WHAT IT READS IS OF BULK AT MOST 1048576: true; the input reads as it did. -/
def fnExactTreePagesUptoRow : OpenClaim := { program := "ytenfomejccfkgaa", sum := "6d9e6bc2e71675e7de3be7eb32f1c9e0d2d0491957fb1247801c2b6ed98f2ce9", func := "loop.example/g00340/laws.FnExactTreePages", spec := "fnExactTreePages", recurses := true, apart := false, narrowed := true }
def FnExactTreePagesUptoSaid : Prop := fnExactTreePagesUptoRow.holds Try.pinned (OpenSpec.upto fnExactTreePagesSpec)

/-- 'laws.FnExactNodeBytes', WHERE WHAT IT READS IS OF BULK AT MOST 1048576: true; the input reads as it did. -/
def fnExactNodeBytesUptoRow : OpenClaim := { program := "ytenfomejccfkgaa", sum := "6d9e6bc2e71675e7de3be7eb32f1c9e0d2d0491957fb1247801c2b6ed98f2ce9", func := "loop.example/g00340/laws.FnExactNodeBytes", spec := "fnExactNodeBytes", inPlace := ["internal/abi.NoEscape"], apart := false, narrowed := true }
def FnExactNodeBytesUptoSaid : Prop := fnExactNodeBytesUptoRow.holds Try.pinned (OpenSpec.upto fnExactNodeBytesSpec)

/-- 'laws.FnExactCountRefs', WHERE WHAT IT READS IS OF BULK AT MOST 1048576: true; the input reads as it did. -/
def fnExactCountRefsUptoRow : OpenClaim := { program := "ytenfomejccfkgaa", sum := "6d9e6bc2e71675e7de3be7eb32f1c9e0d2d0491957fb1247801c2b6ed98f2ce9", func := "loop.example/g00340/laws.FnExactCountRefs", spec := "fnExactCountRefs", unfollowed := true, recurses := true, apart := false, narrowed := true }
def FnExactCountRefsUptoSaid : Prop := fnExactCountRefsUptoRow.holds Try.pinned (OpenSpec.upto fnExactCountRefsSpec)

/-- 'laws.FnRefs', WHERE WHAT IT READS IS OF BULK AT MOST 1048576: true; the input reads as it did. -/
def fnRefsUptoRow : OpenClaim := { program := "ytenfomejccfkgaa", sum := "6d9e6bc2e71675e7de3be7eb32f1c9e0d2d0491957fb1247801c2b6ed98f2ce9", func := "loop.example/g00340/laws.FnRefs", spec := "fnRefs", unfollowed := true, recurses := true, apart := false, narrowed := true }
def FnRefsUptoSaid : Prop := fnRefsUptoRow.holds Try.pinned (OpenSpec.upto fnRefsSpec)

/-- 'laws.FnTree', WHERE WHAT IT READS IS OF BULK AT MOST 1048576: true; the input reads as it did. -/
def fnTreeUptoRow : OpenClaim := { program := "ytenfomejccfkgaa", sum := "6d9e6bc2e71675e7de3be7eb32f1c9e0d2d0491957fb1247801c2b6ed98f2ce9", func := "loop.example/g00340/laws.FnTree", spec := "fnTree", inPlace := ["internal/bytealg.abigen_runtime_cmpstring", "slices.overlaps[loop.example/g00340/impl.Pair]"], unfollowed := true, recurses := true, apart := false, narrowed := true }
def FnTreeUptoSaid : Prop := fnTreeUptoRow.holds Try.pinned (OpenSpec.upto fnTreeSpec)

/-- 'laws.FnTreeDrop', WHERE WHAT IT READS IS OF BULK AT MOST 1048576: true; the input reads as it did. -/
def fnTreeDropUptoRow : OpenClaim := { program := "ytenfomejccfkgaa", sum := "6d9e6bc2e71675e7de3be7eb32f1c9e0d2d0491957fb1247801c2b6ed98f2ce9", func := "loop.example/g00340/laws.FnTreeDrop", spec := "fnTreeDrop", inPlace := ["internal/bytealg.abigen_runtime_cmpstring"], unfollowed := true, recurses := true, apart := false, narrowed := true }
def FnTreeDropUptoSaid : Prop := fnTreeDropUptoRow.holds Try.pinned (OpenSpec.upto fnTreeDropSpec)

/-- 'laws.FnExactSuperBytes', WHERE WHAT IT READS IS OF BULK AT MOST 1048576: true; the input reads as it did. -/
def fnExactSuperBytesUptoRow : OpenClaim := { program := "ytenfomejccfkgaa", sum := "6d9e6bc2e71675e7de3be7eb32f1c9e0d2d0491957fb1247801c2b6ed98f2ce9", func := "loop.example/g00340/laws.FnExactSuperBytes", spec := "fnExactSuperBytes", inPlace := ["internal/abi.NoEscape"], apart := false, narrowed := true }
def FnExactSuperBytesUptoSaid : Prop := fnExactSuperBytesUptoRow.holds Try.pinned (OpenSpec.upto fnExactSuperBytesSpec)

end Rows
end Go.Proofs.Ytenfomejccfkgaa
