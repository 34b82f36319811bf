/-
  No cell of these rows narrows 'for every input' (looked for: loops, veiled, ifaces, maps, wideKeys, modest, calm, conditions, laid).
  DERIVED. THE GIVEN ROWS OF THIS SEAT. 12 by the template 'for every input the law returns true; each argument reads behind the call as it read before'; 0 by the template 'total and deterministic' (their statements: YtonfmdgklgdgfaaTotals.lean).
  GIVEN WITH THE SEED: the statements are not yours to turn. If you find one false, say at which input.
  Laid BY PROGRAM, IN A SANDBOX (cutbox-rows.mjs): the forced cells as the released guide's own fill.sh prints them over the translation a0145cc19a07ce4e… (all of the seat's roots in one cut). By AI agents, Wed Nov 11 2026. No macro, syntax, notation, axiom, sorry.
-/
import Derived.Test.YtonfmdgklgdgfaaChecked
import GoSem.Claim
import GoSem.ClaimJoined
import GoSem.ClaimMapViews
import Derived.JoinedTies
import Derived.KernelRfl
namespace Go.Proofs.Ytonfmdgklgdgfaa
/- THE CELL 'sum', in the pinned program and in every row, IS THE sha256 OF THE DUMP (.gsa) THAT YtonfmdgklgdgfaaProg.lean LOADS. Nothing in Lean hashes anything: it is a label: what it is worth is what the hold of that sum in a sandbox is worth. -/
noncomputable def Try.pinned : Pinned := { name := "ytonfmdgklgdgfaa", sum := "a0145cc19a07ce4ec62b968f9a72eb2ccad3a2ede57ab5d98319490981e72e59", checked := Try.checked }
namespace Rows
def none {H : Type} : Left H := { results := [], args := [] }

/-- 'laws.FnExactConstants': WHATEVER THE INPUT: true; the input reads as it did. -/
def fnExactConstantsSpec : ChangeSpec := { name := "fnExactConstants", fn := fun _ => fun
  | [] => { results := [.lit (.bool true)], args := [] }
  | _ => none }
def fnExactConstantsRow : OpenClaim := { program := "ytonfmdgklgdgfaa", sum := "a0145cc19a07ce4ec62b968f9a72eb2ccad3a2ede57ab5d98319490981e72e59", func := "loop.example/g00340/laws.FnExactConstants", spec := "fnExactConstants", apart := false }
def FnExactConstantsSaid : Prop := fnExactConstantsRow.holds Try.pinned (OpenSpec.ofChange fnExactConstantsSpec)

/-- ITS FALSE NEIGHBOUR: 'it returns false'. Refute it at one input. -/
def fnExactConstantsWrong : ChangeSpec := { name := "fnExactConstants", fn := fun _ => fun
  | [] => { results := [.lit (.bool false)], args := [] }
  | _ => none }
def FnExactConstantsWrongFalsely : Prop := fnExactConstantsRow.holds Try.pinned (OpenSpec.ofChange fnExactConstantsWrong)

/-- 'laws.FnExactCodeWord': WHATEVER THE INPUT: true; the input reads as it did. -/
def fnExactCodeWordSpec : ChangeSpec := { name := "fnExactCodeWord", fn := fun _ => fun
  | [d] => { results := [.lit (.bool true)], args := [d] }
  | _ => none }
def fnExactCodeWordRow : OpenClaim := { program := "ytonfmdgklgdgfaa", sum := "a0145cc19a07ce4ec62b968f9a72eb2ccad3a2ede57ab5d98319490981e72e59", func := "loop.example/g00340/laws.FnExactCodeWord", spec := "fnExactCodeWord", apart := false }
def FnExactCodeWordSaid : Prop := fnExactCodeWordRow.holds Try.pinned (OpenSpec.ofChange fnExactCodeWordSpec)

/-- ITS FALSE NEIGHBOUR: 'it returns false'. Refute it at one input. -/
def fnExactCodeWordWrong : ChangeSpec := { name := "fnExactCodeWord", fn := fun _ => fun
  | [d] => { results := [.lit (.bool false)], args := [d] }
  | _ => none }
def FnExactCodeWordWrongFalsely : Prop := fnExactCodeWordRow.holds Try.pinned (OpenSpec.ofChange fnExactCodeWordWrong)

/-- 'laws.FnExactCodeOf': WHATEVER THE INPUT: true; the input reads as it did. -/
def fnExactCodeOfSpec : ChangeSpec := { name := "fnExactCodeOf", fn := fun _ => fun
  | [d] => { results := [.lit (.bool true)], args := [d] }
  | _ => none }
def fnExactCodeOfRow : OpenClaim := { program := "ytonfmdgklgdgfaa", sum := "a0145cc19a07ce4ec62b968f9a72eb2ccad3a2ede57ab5d98319490981e72e59", func := "loop.example/g00340/laws.FnExactCodeOf", spec := "fnExactCodeOf", apart := false }
def FnExactCodeOfSaid : Prop := fnExactCodeOfRow.holds Try.pinned (OpenSpec.ofChange fnExactCodeOfSpec)

/-- ITS FALSE NEIGHBOUR: 'it returns false'. Refute it at one input. -/
def fnExactCodeOfWrong : ChangeSpec := { name := "fnExactCodeOf", fn := fun _ => fun
  | [d] => { results := [.lit (.bool false)], args := [d] }
  | _ => none }
def FnExactCodeOfWrongFalsely : Prop := fnExactCodeOfRow.holds Try.pinned (OpenSpec.ofChange fnExactCodeOfWrong)

/-- 'laws.FnExactNameOK': WHATEVER THE INPUT: true; the input reads as it did. -/
def fnExactNameOKSpec : ChangeSpec := { name := "fnExactNameOK", fn := fun _ => fun
  | [d] => { results := [.lit (.bool true)], args := [d] }
  | _ => none }
def fnExactNameOKRow : OpenClaim := { program := "ytonfmdgklgdgfaa", sum := "a0145cc19a07ce4ec62b968f9a72eb2ccad3a2ede57ab5d98319490981e72e59", func := "loop.example/g00340/laws.FnExactNameOK", spec := "fnExactNameOK", apart := false }
def FnExactNameOKSaid : Prop := fnExactNameOKRow.holds Try.pinned (OpenSpec.ofChange fnExactNameOKSpec)

/-- ITS FALSE NEIGHBOUR: 'it returns false'. Refute it at one input. -/
def fnExactNameOKWrong : ChangeSpec := { name := "fnExactNameOK", fn := fun _ => fun
  | [d] => { results := [.lit (.bool false)], args := [d] }
  | _ => none }
def FnExactNameOKWrongFalsely : Prop := fnExactNameOKRow.holds Try.pinned (OpenSpec.ofChange fnExactNameOKWrong)

/-- 'laws.FnCheck': WHATEVER THE INPUT: true; the input reads as it did. -/
def fnCheckSpec : ChangeSpec := { name := "fnCheck", fn := fun _ => fun
  | [d1, d2] => { results := [.lit (.bool true)], args := [d1, d2] }
  | _ => none }
def fnCheckRow : OpenClaim := { program := "ytonfmdgklgdgfaa", sum := "a0145cc19a07ce4ec62b968f9a72eb2ccad3a2ede57ab5d98319490981e72e59", func := "loop.example/g00340/laws.FnCheck", spec := "fnCheck", apart := false }
def FnCheckSaid : Prop := fnCheckRow.holds Try.pinned (OpenSpec.ofChange fnCheckSpec)

/-- ITS FALSE NEIGHBOUR: 'it returns false'. Refute it at one input. -/
def fnCheckWrong : ChangeSpec := { name := "fnCheck", fn := fun _ => fun
  | [d1, d2] => { results := [.lit (.bool false)], args := [d1, d2] }
  | _ => none }
def FnCheckWrongFalsely : Prop := fnCheckRow.holds Try.pinned (OpenSpec.ofChange fnCheckWrong)

/-- 'laws.FnExactCheck32': WHATEVER THE INPUT: true; the input reads as it did. -/
def fnExactCheck32Spec : ChangeSpec := { name := "fnExactCheck32", fn := fun _ => fun
  | [d] => { results := [.lit (.bool true)], args := [d] }
  | _ => none }
def fnExactCheck32Row : OpenClaim := { program := "ytonfmdgklgdgfaa", sum := "a0145cc19a07ce4ec62b968f9a72eb2ccad3a2ede57ab5d98319490981e72e59", func := "loop.example/g00340/laws.FnExactCheck32", spec := "fnExactCheck32", apart := false }
def FnExactCheck32Said : Prop := fnExactCheck32Row.holds Try.pinned (OpenSpec.ofChange fnExactCheck32Spec)

/-- ITS FALSE NEIGHBOUR: 'it returns false'. Refute it at one input. -/
def fnExactCheck32Wrong : ChangeSpec := { name := "fnExactCheck32", fn := fun _ => fun
  | [d] => { results := [.lit (.bool false)], args := [d] }
  | _ => none }
def FnExactCheck32WrongFalsely : Prop := fnExactCheck32Row.holds Try.pinned (OpenSpec.ofChange fnExactCheck32Wrong)

/-- 'laws.FnExactPairsOK': WHATEVER THE INPUT: true; the input reads as it did. -/
def fnExactPairsOKSpec : ChangeSpec := { name := "fnExactPairsOK", fn := fun _ => fun
  | [d] => { results := [.lit (.bool true)], args := [d] }
  | _ => none }
def fnExactPairsOKRow : OpenClaim := { program := "ytonfmdgklgdgfaa", sum := "a0145cc19a07ce4ec62b968f9a72eb2ccad3a2ede57ab5d98319490981e72e59", func := "loop.example/g00340/laws.FnExactPairsOK", spec := "fnExactPairsOK", apart := false }
def FnExactPairsOKSaid : Prop := fnExactPairsOKRow.holds Try.pinned (OpenSpec.ofChange fnExactPairsOKSpec)

/-- ITS FALSE NEIGHBOUR: 'it returns false'. Refute it at one input. -/
def fnExactPairsOKWrong : ChangeSpec := { name := "fnExactPairsOK", fn := fun _ => fun
  | [d] => { results := [.lit (.bool false)], args := [d] }
  | _ => none }
def FnExactPairsOKWrongFalsely : Prop := fnExactPairsOKRow.holds Try.pinned (OpenSpec.ofChange fnExactPairsOKWrong)

/-- 'laws.FnExactFieldsBytes': WHATEVER THE INPUT: true; the input reads as it did. -/
def fnExactFieldsBytesSpec : ChangeSpec := { name := "fnExactFieldsBytes", fn := fun _ => fun
  | [d] => { results := [.lit (.bool true)], args := [d] }
  | _ => none }
def fnExactFieldsBytesRow : OpenClaim := { program := "ytonfmdgklgdgfaa", sum := "a0145cc19a07ce4ec62b968f9a72eb2ccad3a2ede57ab5d98319490981e72e59", func := "loop.example/g00340/laws.FnExactFieldsBytes", spec := "fnExactFieldsBytes", inPlace := ["internal/abi.NoEscape"], unfollowed := true, recurses := true, apart := false }
def FnExactFieldsBytesSaid : Prop := fnExactFieldsBytesRow.holds Try.pinned (OpenSpec.ofChange fnExactFieldsBytesSpec)

/-- ITS FALSE NEIGHBOUR: 'it returns false'. Refute it at one input. -/
def fnExactFieldsBytesWrong : ChangeSpec := { name := "fnExactFieldsBytes", fn := fun _ => fun
  | [d] => { results := [.lit (.bool false)], args := [d] }
  | _ => none }
def FnExactFieldsBytesWrongFalsely : Prop := fnExactFieldsBytesRow.holds Try.pinned (OpenSpec.ofChange fnExactFieldsBytesWrong)

/-- 'laws.FnExactPairGet': WHATEVER THE INPUT: true; the input reads as it did. -/
def fnExactPairGetSpec : ChangeSpec := { name := "fnExactPairGet", fn := fun _ => fun
  | [d1, d2] => { results := [.lit (.bool true)], args := [d1, d2] }
  | _ => none }
def fnExactPairGetRow : OpenClaim := { program := "ytonfmdgklgdgfaa", sum := "a0145cc19a07ce4ec62b968f9a72eb2ccad3a2ede57ab5d98319490981e72e59", func := "loop.example/g00340/laws.FnExactPairGet", spec := "fnExactPairGet", inPlace := ["internal/bytealg.abigen_runtime_cmpstring"], unfollowed := true, recurses := true, apart := false }
def FnExactPairGetSaid : Prop := fnExactPairGetRow.holds Try.pinned (OpenSpec.ofChange fnExactPairGetSpec)

/-- ITS FALSE NEIGHBOUR: 'it returns false'. Refute it at one input. -/
def fnExactPairGetWrong : ChangeSpec := { name := "fnExactPairGet", fn := fun _ => fun
  | [d1, d2] => { results := [.lit (.bool false)], args := [d1, d2] }
  | _ => none }
def FnExactPairGetWrongFalsely : Prop := fnExactPairGetRow.holds Try.pinned (OpenSpec.ofChange fnExactPairGetWrong)

/-- 'laws.FnExactPairsUnder': WHATEVER THE INPUT: true; the input reads as it did. -/
def fnExactPairsUnderSpec : ChangeSpec := { name := "fnExactPairsUnder", fn := fun _ => fun
  | [d1, d2] => { results := [.lit (.bool true)], args := [d1, d2] }
  | _ => none }
def fnExactPairsUnderRow : OpenClaim := { program := "ytonfmdgklgdgfaa", sum := "a0145cc19a07ce4ec62b968f9a72eb2ccad3a2ede57ab5d98319490981e72e59", func := "loop.example/g00340/laws.FnExactPairsUnder", spec := "fnExactPairsUnder", unfollowed := true, recurses := true, apart := false }
def FnExactPairsUnderSaid : Prop := fnExactPairsUnderRow.holds Try.pinned (OpenSpec.ofChange fnExactPairsUnderSpec)

/-- ITS FALSE NEIGHBOUR: 'it returns false'. Refute it at one input. -/
def fnExactPairsUnderWrong : ChangeSpec := { name := "fnExactPairsUnder", fn := fun _ => fun
  | [d1, d2] => { results := [.lit (.bool false)], args := [d1, d2] }
  | _ => none }
def FnExactPairsUnderWrongFalsely : Prop := fnExactPairsUnderRow.holds Try.pinned (OpenSpec.ofChange fnExactPairsUnderWrong)

/-- 'laws.FnExactPairDrop': WHATEVER THE INPUT: true; the input reads as it did. -/
def fnExactPairDropSpec : ChangeSpec := { name := "fnExactPairDrop", fn := fun _ => fun
  | [d1, d2] => { results := [.lit (.bool true)], args := [d1, d2] }
  | _ => none }
def fnExactPairDropRow : OpenClaim := { program := "ytonfmdgklgdgfaa", sum := "a0145cc19a07ce4ec62b968f9a72eb2ccad3a2ede57ab5d98319490981e72e59", func := "loop.example/g00340/laws.FnExactPairDrop", spec := "fnExactPairDrop", inPlace := ["internal/bytealg.abigen_runtime_cmpstring"], unfollowed := true, recurses := true, apart := false }
def FnExactPairDropSaid : Prop := fnExactPairDropRow.holds Try.pinned (OpenSpec.ofChange fnExactPairDropSpec)

/-- ITS FALSE NEIGHBOUR: 'it returns false'. Refute it at one input. -/
def fnExactPairDropWrong : ChangeSpec := { name := "fnExactPairDrop", fn := fun _ => fun
  | [d1, d2] => { results := [.lit (.bool false)], args := [d1, d2] }
  | _ => none }
def FnExactPairDropWrongFalsely : Prop := fnExactPairDropRow.holds Try.pinned (OpenSpec.ofChange fnExactPairDropWrong)

/-- 'laws.FnExactPairPut': WHATEVER THE INPUT: true; the input reads as it did. -/
def fnExactPairPutSpec : ChangeSpec := { name := "fnExactPairPut", fn := fun _ => fun
  | [d1, d2, d3] => { results := [.lit (.bool true)], args := [d1, d2, d3] }
  | _ => none }
def fnExactPairPutRow : OpenClaim := { program := "ytonfmdgklgdgfaa", sum := "a0145cc19a07ce4ec62b968f9a72eb2ccad3a2ede57ab5d98319490981e72e59", func := "loop.example/g00340/laws.FnExactPairPut", spec := "fnExactPairPut", inPlace := ["internal/bytealg.abigen_runtime_cmpstring", "slices.overlaps[loop.example/g00340/impl.Pair]"], unfollowed := true, recurses := true, apart := false }
def FnExactPairPutSaid : Prop := fnExactPairPutRow.holds Try.pinned (OpenSpec.ofChange fnExactPairPutSpec)

/-- ITS FALSE NEIGHBOUR: 'it returns false'. Refute it at one input. -/
def fnExactPairPutWrong : ChangeSpec := { name := "fnExactPairPut", fn := fun _ => fun
  | [d1, d2, d3] => { results := [.lit (.bool false)], args := [d1, d2, d3] }
  | _ => none }
def FnExactPairPutWrongFalsely : Prop := fnExactPairPutRow.holds Try.pinned (OpenSpec.ofChange fnExactPairPutWrong)

/- THE SECOND FORM. 'bulk': how many values and letters a reading holds, each counted each time it is reached (what is shared counts as often as it is met; a slice's spare places count too). A statement '..UptoSaid' is the law's where the arguments, and the package variables that the reading takes, are together of bulk at most 1048576: NARROWER than '..Said'. Prove '..Said' where nothing that the law and all that it calls make is longer than what came in: it says more and counts as full. Else prove '..UptoSaid'. A law counts once. -/
mutual
def uptoBulk {H : Type} : DataW H → Nat
  | .lit (.string bytes) => bytes.length + 1
  | .lit _ => 1
  | .nil => 1
  | .ptr d => uptoBulk d + 1
  | .slice elems spare => uptoBulkAll elems + uptoBulkAll spare + 1
  | .agg parts => uptoBulkAll parts + 1
  | .iface _ d => uptoBulk d + 1
  | .map entries => uptoBulkEntries entries + 1
  | .held _ => 1
def uptoBulkAll {H : Type} : List (DataW H) → Nat
  | [] => 0
  | d :: r => uptoBulk d + uptoBulkAll r
def uptoBulkEntries {H : Type} : List (Lit × DataW H) → Nat
  | [] => 0
  | x :: r => uptoBulkEntry x + uptoBulkEntries r
def uptoBulkEntry {H : Type} : Lit × DataW H → Nat
  | (.string bytes, d) => bytes.length + uptoBulk d + 1
  | (_, d) => uptoBulk d + 1
 end
def uptoSmall : (H : Type) → List (DataW H) → Bool := fun _ ds => decide (uptoBulkAll ds ≤ 1048576)
def OpenSpec.upto (s : _root_.Go.ChangeSpec) : _root_.Go.OpenSpec := { _root_.Go.OpenSpec.ofChange s with cond := some uptoSmall }

/-- 'laws.FnExactConstants', WHERE WHAT IT READS IS OF BULK AT MOST 1048576: true; the input reads as it did. -/
def fnExactConstantsUptoRow : OpenClaim := { program := "ytonfmdgklgdgfaa", sum := "a0145cc19a07ce4ec62b968f9a72eb2ccad3a2ede57ab5d98319490981e72e59", func := "loop.example/g00340/laws.FnExactConstants", spec := "fnExactConstants", apart := false, narrowed := true }
def FnExactConstantsUptoSaid : Prop := fnExactConstantsUptoRow.holds Try.pinned (OpenSpec.upto fnExactConstantsSpec)

/-- 'laws.FnExactCodeWord', WHERE WHAT IT READS IS OF BULK AT MOST 1048576: true; the input reads as it did. -/
def fnExactCodeWordUptoRow : OpenClaim := { program := "ytonfmdgklgdgfaa", sum := "a0145cc19a07ce4ec62b968f9a72eb2ccad3a2ede57ab5d98319490981e72e59", func := "loop.example/g00340/laws.FnExactCodeWord", spec := "fnExactCodeWord", apart := false, narrowed := true }
def FnExactCodeWordUptoSaid : Prop := fnExactCodeWordUptoRow.holds Try.pinned (OpenSpec.upto fnExactCodeWordSpec)

/-- 'laws.FnExactCodeOf', WHERE WHAT IT READS IS OF BULK AT MOST 1048576: true; the input reads as it did. -/
def fnExactCodeOfUptoRow : OpenClaim := { program := "ytonfmdgklgdgfaa", sum := "a0145cc19a07ce4ec62b968f9a72eb2ccad3a2ede57ab5d98319490981e72e59", func := "loop.example/g00340/laws.FnExactCodeOf", spec := "fnExactCodeOf", apart := false, narrowed := true }
def FnExactCodeOfUptoSaid : Prop := fnExactCodeOfUptoRow.holds Try.pinned (OpenSpec.upto fnExactCodeOfSpec)

/-- 'laws.FnExactNameOK', WHERE WHAT IT READS IS OF BULK AT MOST 1048576: true; the input reads as it did. -/
def fnExactNameOKUptoRow : OpenClaim := { program := "ytonfmdgklgdgfaa", sum := "a0145cc19a07ce4ec62b968f9a72eb2ccad3a2ede57ab5d98319490981e72e59", func := "loop.example/g00340/laws.FnExactNameOK", spec := "fnExactNameOK", apart := false, narrowed := true }
def FnExactNameOKUptoSaid : Prop := fnExactNameOKUptoRow.holds Try.pinned (OpenSpec.upto fnExactNameOKSpec)

/-- 'laws.FnCheck', WHERE WHAT IT READS IS OF BULK AT MOST 1048576: true; the input reads as it did. -/
def fnCheckUptoRow : OpenClaim := { program := "ytonfmdgklgdgfaa", sum := "a0145cc19a07ce4ec62b968f9a72eb2ccad3a2ede57ab5d98319490981e72e59", func := "loop.example/g00340/laws.FnCheck", spec := "fnCheck", apart := false, narrowed := true }
def FnCheckUptoSaid : Prop := fnCheckUptoRow.holds Try.pinned (OpenSpec.upto fnCheckSpec)

/-- 'laws.FnExactCheck32', WHERE WHAT IT READS IS OF BULK AT MOST 1048576: true; the input reads as it did. -/
def fnExactCheck32UptoRow : OpenClaim := { program := "ytonfmdgklgdgfaa", sum := "a0145cc19a07ce4ec62b968f9a72eb2ccad3a2ede57ab5d98319490981e72e59", func := "loop.example/g00340/laws.FnExactCheck32", spec := "fnExactCheck32", apart := false, narrowed := true }
def FnExactCheck32UptoSaid : Prop := fnExactCheck32UptoRow.holds Try.pinned (OpenSpec.upto fnExactCheck32Spec)

/-- 'laws.FnExactPairsOK', WHERE WHAT IT READS IS OF BULK AT MOST 1048576: true; the input reads as it did. -/
def fnExactPairsOKUptoRow : OpenClaim := { program := "ytonfmdgklgdgfaa", sum := "a0145cc19a07ce4ec62b968f9a72eb2ccad3a2ede57ab5d98319490981e72e59", func := "loop.example/g00340/laws.FnExactPairsOK", spec := "fnExactPairsOK", apart := false, narrowed := true }
def FnExactPairsOKUptoSaid : Prop := fnExactPairsOKUptoRow.holds Try.pinned (OpenSpec.upto fnExactPairsOKSpec)

/-- 'laws.FnExactFieldsBytes', WHERE WHAT IT READS IS OF BULK AT MOST 1048576: true; the input reads as it did. -/
def fnExactFieldsBytesUptoRow : OpenClaim := { program := "ytonfmdgklgdgfaa", sum := "a0145cc19a07ce4ec62b968f9a72eb2ccad3a2ede57ab5d98319490981e72e59", func := "loop.example/g00340/laws.FnExactFieldsBytes", spec := "fnExactFieldsBytes", inPlace := ["internal/abi.NoEscape"], unfollowed := true, recurses := true, apart := false, narrowed := true }
def FnExactFieldsBytesUptoSaid : Prop := fnExactFieldsBytesUptoRow.holds Try.pinned (OpenSpec.upto fnExactFieldsBytesSpec)

/-- 'laws.FnExactPairGet', WHERE WHAT IT READS IS OF BULK AT MOST 1048576: true; the input reads as it did. -/
def fnExactPairGetUptoRow : OpenClaim := { program := "ytonfmdgklgdgfaa", sum := "a0145cc19a07ce4ec62b968f9a72eb2ccad3a2ede57ab5d98319490981e72e59", func := "loop.example/g00340/laws.FnExactPairGet", spec := "fnExactPairGet", inPlace := ["internal/bytealg.abigen_runtime_cmpstring"], unfollowed := true, recurses := true, apart := false, narrowed := true }
def FnExactPairGetUptoSaid : Prop := fnExactPairGetUptoRow.holds Try.pinned (OpenSpec.upto fnExactPairGetSpec)

/-- 'laws.FnExactPairsUnder', WHERE WHAT IT READS IS OF BULK AT MOST 1048576: true; the input reads as it did. -/
def fnExactPairsUnderUptoRow : OpenClaim := { program := "ytonfmdgklgdgfaa", sum := "a0145cc19a07ce4ec62b968f9a72eb2ccad3a2ede57ab5d98319490981e72e59", func := "loop.example/g00340/laws.FnExactPairsUnder", spec := "fnExactPairsUnder", unfollowed := true, recurses := true, apart := false, narrowed := true }
def FnExactPairsUnderUptoSaid : Prop := fnExactPairsUnderUptoRow.holds Try.pinned (OpenSpec.upto fnExactPairsUnderSpec)

/-- 'laws.FnExactPairDrop', WHERE WHAT IT READS IS OF BULK AT MOST 1048576: true; the input reads as it did. -/
def fnExactPairDropUptoRow : OpenClaim := { program := "ytonfmdgklgdgfaa", sum := "a0145cc19a07ce4ec62b968f9a72eb2ccad3a2ede57ab5d98319490981e72e59", func := "loop.example/g00340/laws.FnExactPairDrop", spec := "fnExactPairDrop", inPlace := ["internal/bytealg.abigen_runtime_cmpstring"], unfollowed := true, recurses := true, apart := false, narrowed := true }
def FnExactPairDropUptoSaid : Prop := fnExactPairDropUptoRow.holds Try.pinned (OpenSpec.upto fnExactPairDropSpec)

/-- 'laws.FnExactPairPut', WHERE WHAT IT READS IS OF BULK AT MOST 1048576: true; the input reads as it did. -/
def fnExactPairPutUptoRow : OpenClaim := { program := "ytonfmdgklgdgfaa", sum := "a0145cc19a07ce4ec62b968f9a72eb2ccad3a2ede57ab5d98319490981e72e59", func := "loop.example/g00340/laws.FnExactPairPut", spec := "fnExactPairPut", inPlace := ["internal/bytealg.abigen_runtime_cmpstring", "slices.overlaps[loop.example/g00340/impl.Pair]"], unfollowed := true, recurses := true, apart := false, narrowed := true }
def FnExactPairPutUptoSaid : Prop := fnExactPairPutUptoRow.holds Try.pinned (OpenSpec.upto fnExactPairPutSpec)

end Rows
end Go.Proofs.Ytonfmdgklgdgfaa
