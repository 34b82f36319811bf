/-
  No cell of these rows narrows 'for every input' (looked for: loops, veiled, ifaces, maps, wideKeys, modest, calm, conditions, laid).
  DERIVED. THE GIVEN ROWS OF THIS SEAT. 8 by the template 'for every input the law returns true; each argument reads behind the call as it read before'; 0 by the template 'total and deterministic' (their statements: YtgcncphdjabjjaaTotals.lean).
  GIVEN WITH THE SEED: the statements are not yours to turn. If you find one false, say at which input.
  Laid BY PROGRAM, IN A SANDBOX (cutbox-rows.mjs): the forced cells as the released guide's own fill.sh prints them over the translation ef4f283c1f1354ca… (all of the seat's roots in one cut). By AI agents, Wed Nov 11 2026. No macro, syntax, notation, axiom, sorry.
-/
import Derived.Test.YtgcncphdjabjjaaChecked
import GoSem.Claim
import GoSem.ClaimJoined
import GoSem.ClaimMapViews
import Derived.JoinedTies
import Derived.KernelRfl
namespace Go.Proofs.Ytgcncphdjabjjaa
/- THE CELL 'sum', in the pinned program and in every row, IS THE sha256 OF THE DUMP (.gsa) THAT YtgcncphdjabjjaaProg.lean LOADS. Nothing in Lean hashes anything: it is a label: what it is worth is what the hold of that sum in a sandbox is worth. -/
noncomputable def Try.pinned : Pinned := { name := "ytgcncphdjabjjaa", sum := "ef4f283c1f1354ca99ca0e0e49f8a669e8342cfb9db460ba8056dc2cf1644c6e", checked := Try.checked }
namespace Rows
def none {H : Type} : Left H := { results := [], args := [] }

/-- 'laws.FnExactPairsSum': WHATEVER THE INPUT: true; the input reads as it did. -/
def fnExactPairsSumSpec : ChangeSpec := { name := "fnExactPairsSum", fn := fun _ => fun
  | [d] => { results := [.lit (.bool true)], args := [d] }
  | _ => none }
def fnExactPairsSumRow : OpenClaim := { program := "ytgcncphdjabjjaa", sum := "ef4f283c1f1354ca99ca0e0e49f8a669e8342cfb9db460ba8056dc2cf1644c6e", func := "loop.example/g00340/laws.FnExactPairsSum", spec := "fnExactPairsSum", inPlace := ["internal/abi.NoEscape"], apart := false }
def FnExactPairsSumSaid : Prop := fnExactPairsSumRow.holds Try.pinned (OpenSpec.ofChange fnExactPairsSumSpec)

/-- ITS FALSE NEIGHBOUR: 'it returns false'. Refute it at one input. -/
def fnExactPairsSumWrong : ChangeSpec := { name := "fnExactPairsSum", fn := fun _ => fun
  | [d] => { results := [.lit (.bool false)], args := [d] }
  | _ => none }
def FnExactPairsSumWrongFalsely : Prop := fnExactPairsSumRow.holds Try.pinned (OpenSpec.ofChange fnExactPairsSumWrong)

/-- 'laws.FnExactDiffPairs': WHATEVER THE INPUT: true; the input reads as it did. -/
def fnExactDiffPairsSpec : ChangeSpec := { name := "fnExactDiffPairs", fn := fun _ => fun
  | [d1, d2] => { results := [.lit (.bool true)], args := [d1, d2] }
  | _ => none }
def fnExactDiffPairsRow : OpenClaim := { program := "ytgcncphdjabjjaa", sum := "ef4f283c1f1354ca99ca0e0e49f8a669e8342cfb9db460ba8056dc2cf1644c6e", func := "loop.example/g00340/laws.FnExactDiffPairs", spec := "fnExactDiffPairs", apart := false }
def FnExactDiffPairsSaid : Prop := fnExactDiffPairsRow.holds Try.pinned (OpenSpec.ofChange fnExactDiffPairsSpec)

/-- ITS FALSE NEIGHBOUR: 'it returns false'. Refute it at one input. -/
def fnExactDiffPairsWrong : ChangeSpec := { name := "fnExactDiffPairs", fn := fun _ => fun
  | [d1, d2] => { results := [.lit (.bool false)], args := [d1, d2] }
  | _ => none }
def FnExactDiffPairsWrongFalsely : Prop := fnExactDiffPairsRow.holds Try.pinned (OpenSpec.ofChange fnExactDiffPairsWrong)

/-- 'laws.FnExactApplyDiff': WHATEVER THE INPUT: true; the input reads as it did. -/
def fnExactApplyDiffSpec : ChangeSpec := { name := "fnExactApplyDiff", fn := fun _ => fun
  | [d1, d2] => { results := [.lit (.bool true)], args := [d1, d2] }
  | _ => none }
def fnExactApplyDiffRow : OpenClaim := { program := "ytgcncphdjabjjaa", sum := "ef4f283c1f1354ca99ca0e0e49f8a669e8342cfb9db460ba8056dc2cf1644c6e", func := "loop.example/g00340/laws.FnExactApplyDiff", spec := "fnExactApplyDiff", inPlace := ["internal/bytealg.abigen_runtime_cmpstring", "slices.overlaps[loop.example/g00340/impl.Pair]"], unfollowed := true, recurses := true, apart := false }
def FnExactApplyDiffSaid : Prop := fnExactApplyDiffRow.holds Try.pinned (OpenSpec.ofChange fnExactApplyDiffSpec)

/-- ITS FALSE NEIGHBOUR: 'it returns false'. Refute it at one input. -/
def fnExactApplyDiffWrong : ChangeSpec := { name := "fnExactApplyDiff", fn := fun _ => fun
  | [d1, d2] => { results := [.lit (.bool false)], args := [d1, d2] }
  | _ => none }
def FnExactApplyDiffWrongFalsely : Prop := fnExactApplyDiffRow.holds Try.pinned (OpenSpec.ofChange fnExactApplyDiffWrong)

/-- 'laws.FnExactBackupOK': WHATEVER THE INPUT: true; the input reads as it did. -/
def fnExactBackupOKSpec : ChangeSpec := { name := "fnExactBackupOK", fn := fun _ => fun
  | [d] => { results := [.lit (.bool true)], args := [d] }
  | _ => none }
def fnExactBackupOKRow : OpenClaim := { program := "ytgcncphdjabjjaa", sum := "ef4f283c1f1354ca99ca0e0e49f8a669e8342cfb9db460ba8056dc2cf1644c6e", func := "loop.example/g00340/laws.FnExactBackupOK", spec := "fnExactBackupOK", apart := false }
def FnExactBackupOKSaid : Prop := fnExactBackupOKRow.holds Try.pinned (OpenSpec.ofChange fnExactBackupOKSpec)

/-- ITS FALSE NEIGHBOUR: 'it returns false'. Refute it at one input. -/
def fnExactBackupOKWrong : ChangeSpec := { name := "fnExactBackupOK", fn := fun _ => fun
  | [d] => { results := [.lit (.bool false)], args := [d] }
  | _ => none }
def FnExactBackupOKWrongFalsely : Prop := fnExactBackupOKRow.holds Try.pinned (OpenSpec.ofChange fnExactBackupOKWrong)

/-- 'laws.FnExactBackupBytes': WHATEVER THE INPUT: true; the input reads as it did. -/
def fnExactBackupBytesSpec : ChangeSpec := { name := "fnExactBackupBytes", fn := fun _ => fun
  | [d] => { results := [.lit (.bool true)], args := [d] }
  | _ => none }
def fnExactBackupBytesRow : OpenClaim := { program := "ytgcncphdjabjjaa", sum := "ef4f283c1f1354ca99ca0e0e49f8a669e8342cfb9db460ba8056dc2cf1644c6e", func := "loop.example/g00340/laws.FnExactBackupBytes", spec := "fnExactBackupBytes", inPlace := ["internal/abi.NoEscape"], apart := false }
def FnExactBackupBytesSaid : Prop := fnExactBackupBytesRow.holds Try.pinned (OpenSpec.ofChange fnExactBackupBytesSpec)

/-- ITS FALSE NEIGHBOUR: 'it returns false'. Refute it at one input. -/
def fnExactBackupBytesWrong : ChangeSpec := { name := "fnExactBackupBytes", fn := fun _ => fun
  | [d] => { results := [.lit (.bool false)], args := [d] }
  | _ => none }
def FnExactBackupBytesWrongFalsely : Prop := fnExactBackupBytesRow.holds Try.pinned (OpenSpec.ofChange fnExactBackupBytesWrong)

/-- 'laws.FnExactMakeBackup': WHATEVER THE INPUT: true; the input reads as it did. -/
def fnExactMakeBackupSpec : ChangeSpec := { name := "fnExactMakeBackup", fn := fun _ => fun
  | [d1, d2, d3, d4, d5] => { results := [.lit (.bool true)], args := [d1, d2, d3, d4, d5] }
  | _ => none }
def fnExactMakeBackupRow : OpenClaim := { program := "ytgcncphdjabjjaa", sum := "ef4f283c1f1354ca99ca0e0e49f8a669e8342cfb9db460ba8056dc2cf1644c6e", func := "loop.example/g00340/laws.FnExactMakeBackup", spec := "fnExactMakeBackup", inPlace := ["internal/abi.NoEscape"], apart := false }
def FnExactMakeBackupSaid : Prop := fnExactMakeBackupRow.holds Try.pinned (OpenSpec.ofChange fnExactMakeBackupSpec)

/-- ITS FALSE NEIGHBOUR: 'it returns false'. Refute it at one input. -/
def fnExactMakeBackupWrong : ChangeSpec := { name := "fnExactMakeBackup", fn := fun _ => fun
  | [d1, d2, d3, d4, d5] => { results := [.lit (.bool false)], args := [d1, d2, d3, d4, d5] }
  | _ => none }
def FnExactMakeBackupWrongFalsely : Prop := fnExactMakeBackupRow.holds Try.pinned (OpenSpec.ofChange fnExactMakeBackupWrong)

/-- 'laws.FnExactReplay': WHATEVER THE INPUT: true; the input reads as it did. -/
def fnExactReplaySpec : ChangeSpec := { name := "fnExactReplay", fn := fun _ => fun
  | [d1, d2, d3, d4] => { results := [.lit (.bool true)], args := [d1, d2, d3, d4] }
  | _ => none }
def fnExactReplayRow : OpenClaim := { program := "ytgcncphdjabjjaa", sum := "ef4f283c1f1354ca99ca0e0e49f8a669e8342cfb9db460ba8056dc2cf1644c6e", func := "loop.example/g00340/laws.FnExactReplay", spec := "fnExactReplay", inPlace := ["internal/bytealg.abigen_runtime_cmpstring", "slices.overlaps[loop.example/g00340/impl.Pair]", "internal/abi.NoEscape"], unfollowed := true, recurses := true, apart := false }
def FnExactReplaySaid : Prop := fnExactReplayRow.holds Try.pinned (OpenSpec.ofChange fnExactReplaySpec)

/-- ITS FALSE NEIGHBOUR: 'it returns false'. Refute it at one input. -/
def fnExactReplayWrong : ChangeSpec := { name := "fnExactReplay", fn := fun _ => fun
  | [d1, d2, d3, d4] => { results := [.lit (.bool false)], args := [d1, d2, d3, d4] }
  | _ => none }
def FnExactReplayWrongFalsely : Prop := fnExactReplayRow.holds Try.pinned (OpenSpec.ofChange fnExactReplayWrong)

/-- 'laws.FnExactReplayAll': WHATEVER THE INPUT: true; the input reads as it did. -/
def fnExactReplayAllSpec : ChangeSpec := { name := "fnExactReplayAll", fn := fun _ => fun
  | [d] => { results := [.lit (.bool true)], args := [d] }
  | _ => none }
def fnExactReplayAllRow : OpenClaim := { program := "ytgcncphdjabjjaa", sum := "ef4f283c1f1354ca99ca0e0e49f8a669e8342cfb9db460ba8056dc2cf1644c6e", func := "loop.example/g00340/laws.FnExactReplayAll", spec := "fnExactReplayAll", inPlace := ["internal/bytealg.abigen_runtime_cmpstring", "slices.overlaps[loop.example/g00340/impl.Pair]", "internal/abi.NoEscape"], unfollowed := true, recurses := true, apart := false }
def FnExactReplayAllSaid : Prop := fnExactReplayAllRow.holds Try.pinned (OpenSpec.ofChange fnExactReplayAllSpec)

/-- ITS FALSE NEIGHBOUR: 'it returns false'. Refute it at one input. -/
def fnExactReplayAllWrong : ChangeSpec := { name := "fnExactReplayAll", fn := fun _ => fun
  | [d] => { results := [.lit (.bool false)], args := [d] }
  | _ => none }
def FnExactReplayAllWrongFalsely : Prop := fnExactReplayAllRow.holds Try.pinned (OpenSpec.ofChange fnExactReplayAllWrong)

/- THE SECOND FORM. 'bulk': how many values and letters a reading holds, each counted each time it is reached (what is shared counts as often as it is met; a slice's spare places count too). A statement '..UptoSaid' is the law's where the arguments, and the package variables that the reading takes, are together of bulk at most 1048576: NARROWER than '..Said'. Prove '..Said' where nothing that the law and all that it calls make is longer than what came in: it says more and counts as full. Else prove '..UptoSaid'. A law counts once. -/
mutual
def uptoBulk {H : Type} : DataW H → Nat
  | .lit (.string bytes) => bytes.length + 1
  | .lit _ => 1
  | .nil => 1
  | .ptr d => uptoBulk d + 1
  | .slice elems spare => uptoBulkAll elems + uptoBulkAll spare + 1
  | .agg parts => uptoBulkAll parts + 1
  | .iface _ d => uptoBulk d + 1
  | .map entries => uptoBulkEntries entries + 1
  | .held _ => 1
def uptoBulkAll {H : Type} : List (DataW H) → Nat
  | [] => 0
  | d :: r => uptoBulk d + uptoBulkAll r
def uptoBulkEntries {H : Type} : List (Lit × DataW H) → Nat
  | [] => 0
  | x :: r => uptoBulkEntry x + uptoBulkEntries r
def uptoBulkEntry {H : Type} : Lit × DataW H → Nat
  | (.string bytes, d) => bytes.length + uptoBulk d + 1
  | (_, d) => uptoBulk d + 1
 end
def uptoSmall : (H : Type) → List (DataW H) → Bool := fun _ ds => decide (uptoBulkAll ds ≤ 1048576)
def OpenSpec.upto (s : _root_.Go.ChangeSpec) : _root_.Go.OpenSpec := { _root_.Go.OpenSpec.ofChange s with cond := some uptoSmall }

/-- 'laws.FnExactPairsSum', WHERE WHAT IT READS IS OF BULK AT MOST 1048576: true; the input reads as it did. -/
def fnExactPairsSumUptoRow : OpenClaim := { program := "ytgcncphdjabjjaa", sum := "ef4f283c1f1354ca99ca0e0e49f8a669e8342cfb9db460ba8056dc2cf1644c6e", func := "loop.example/g00340/laws.FnExactPairsSum", spec := "fnExactPairsSum", inPlace := ["internal/abi.NoEscape"], apart := false, narrowed := true }
def FnExactPairsSumUptoSaid : Prop := fnExactPairsSumUptoRow.holds Try.pinned (OpenSpec.upto fnExactPairsSumSpec)

/-- 'laws.FnExactDiffPairs', WHERE WHAT IT READS IS OF BULK AT MOST 1048576: true; the input reads as it did. -/
def fnExactDiffPairsUptoRow : OpenClaim := { program := "ytgcncphdjabjjaa", sum := "ef4f283c1f1354ca99ca0e0e49f8a669e8342cfb9db460ba8056dc2cf1644c6e", func := "loop.example/g00340/laws.FnExactDiffPairs", spec := "fnExactDiffPairs", apart := false, narrowed := true }
def FnExactDiffPairsUptoSaid : Prop := fnExactDiffPairsUptoRow.holds Try.pinned (OpenSpec.upto fnExactDiffPairsSpec)

/-- 'laws.FnExactApplyDiff', WHERE WHAT IT READS IS OF BULK AT MOST 1048576: true; the input reads as it did. -/
def fnExactApplyDiffUptoRow : OpenClaim := { program := "ytgcncphdjabjjaa", sum := "ef4f283c1f1354ca99ca0e0e49f8a669e8342cfb9db460ba8056dc2cf1644c6e", func := "loop.example/g00340/laws.FnExactApplyDiff", spec := "fnExactApplyDiff", inPlace := ["internal/bytealg.abigen_runtime_cmpstring", "slices.overlaps[loop.example/g00340/impl.Pair]"], unfollowed := true, recurses := true, apart := false, narrowed := true }
def FnExactApplyDiffUptoSaid : Prop := fnExactApplyDiffUptoRow.holds Try.pinned (OpenSpec.upto fnExactApplyDiffSpec)

/-- 'laws.FnExactBackupOK', WHERE WHAT IT READS IS OF BULK AT MOST 1048576: true; the input reads as it did. -/
def fnExactBackupOKUptoRow : OpenClaim := { program := "ytgcncphdjabjjaa", sum := "ef4f283c1f1354ca99ca0e0e49f8a669e8342cfb9db460ba8056dc2cf1644c6e", func := "loop.example/g00340/laws.FnExactBackupOK", spec := "fnExactBackupOK", apart := false, narrowed := true }
def FnExactBackupOKUptoSaid : Prop := fnExactBackupOKUptoRow.holds Try.pinned (OpenSpec.upto fnExactBackupOKSpec)

/-- 'laws.FnExactBackupBytes', WHERE WHAT IT READS IS OF BULK AT MOST 1048576: true; the input reads as it did. -/
def fnExactBackupBytesUptoRow : OpenClaim := { program := "ytgcncphdjabjjaa", sum := "ef4f283c1f1354ca99ca0e0e49f8a669e8342cfb9db460ba8056dc2cf1644c6e", func := "loop.example/g00340/laws.FnExactBackupBytes", spec := "fnExactBackupBytes", inPlace := ["internal/abi.NoEscape"], apart := false, narrowed := true }
def FnExactBackupBytesUptoSaid : Prop := fnExactBackupBytesUptoRow.holds Try.pinned (OpenSpec.upto fnExactBackupBytesSpec)

/-- 'laws.FnExactMakeBackup', WHERE WHAT IT READS IS OF BULK AT MOST 1048576: true; the input reads as it did. -/
def fnExactMakeBackupUptoRow : OpenClaim := { program := "ytgcncphdjabjjaa", sum := "ef4f283c1f1354ca99ca0e0e49f8a669e8342cfb9db460ba8056dc2cf1644c6e", func := "loop.example/g00340/laws.FnExactMakeBackup", spec := "fnExactMakeBackup", inPlace := ["internal/abi.NoEscape"], apart := false, narrowed := true }
def FnExactMakeBackupUptoSaid : Prop := fnExactMakeBackupUptoRow.holds Try.pinned (OpenSpec.upto fnExactMakeBackupSpec)

/-- 'laws.FnExactReplay', WHERE WHAT IT READS IS OF BULK AT MOST 1048576: true; the input reads as it did. -/
def fnExactReplayUptoRow : OpenClaim := { program := "ytgcncphdjabjjaa", sum := "ef4f283c1f1354ca99ca0e0e49f8a669e8342cfb9db460ba8056dc2cf1644c6e", func := "loop.example/g00340/laws.FnExactReplay", spec := "fnExactReplay", inPlace := ["internal/bytealg.abigen_runtime_cmpstring", "slices.overlaps[loop.example/g00340/impl.Pair]", "internal/abi.NoEscape"], unfollowed := true, recurses := true, apart := false, narrowed := true }
def FnExactReplayUptoSaid : Prop := fnExactReplayUptoRow.holds Try.pinned (OpenSpec.upto fnExactReplaySpec)

/-- 'laws.FnExactReplayAll', WHERE WHAT IT READS IS OF BULK AT MOST 1048576: true; the input reads as it did. -/
def fnExactReplayAllUptoRow : OpenClaim := { program := "ytgcncphdjabjjaa", sum := "ef4f283c1f1354ca99ca0e0e49f8a669e8342cfb9db460ba8056dc2cf1644c6e", func := "loop.example/g00340/laws.FnExactReplayAll", spec := "fnExactReplayAll", inPlace := ["internal/bytealg.abigen_runtime_cmpstring", "slices.overlaps[loop.example/g00340/impl.Pair]", "internal/abi.NoEscape"], unfollowed := true, recurses := true, apart := false, narrowed := true }
def FnExactReplayAllUptoSaid : Prop := fnExactReplayAllUptoRow.holds Try.pinned (OpenSpec.upto fnExactReplayAllSpec)

end Rows
end Go.Proofs.Ytgcncphdjabjjaa
