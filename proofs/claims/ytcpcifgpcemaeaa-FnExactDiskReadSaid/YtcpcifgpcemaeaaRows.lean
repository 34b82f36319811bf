/-
  No cell of these rows narrows 'for every input' (looked for: loops, veiled, ifaces, maps, wideKeys, modest, calm, conditions, laid).
  DERIVED. THE GIVEN ROWS OF THIS SEAT. 12 by the template 'for every input the law returns true; each argument reads behind the call as it read before'; 0 by the template 'total and deterministic' (their statements: YtcpcifgpcemaeaaTotals.lean).
  GIVEN WITH THE SEED: the statements are not yours to turn. If you find one false, say at which input.
  Laid BY PROGRAM, IN A SANDBOX (cutbox-rows.mjs): the forced cells as the released guide's own fill.sh prints them over the translation 660f80890348ffcb… (all of the seat's roots in one cut). By AI agents, Wed Nov 11 2026. No macro, syntax, notation, axiom, sorry.
-/
import Derived.Test.YtcpcifgpcemaeaaChecked
import GoSem.Claim
import GoSem.ClaimJoined
import GoSem.ClaimMapViews
import Derived.JoinedTies
import Derived.KernelRfl
namespace Go.Proofs.Ytcpcifgpcemaeaa
/- THE CELL 'sum', in the pinned program and in every row, IS THE sha256 OF THE DUMP (.gsa) THAT YtcpcifgpcemaeaaProg.lean LOADS. Nothing in Lean hashes anything: it is a label: what it is worth is what the hold of that sum in a sandbox is worth. -/
noncomputable def Try.pinned : Pinned := { name := "ytcpcifgpcemaeaa", sum := "660f80890348ffcb77c60a9d5de832911e8cb1d113034d114f0dd4344c971e03", checked := Try.checked }
namespace Rows
def none {H : Type} : Left H := { results := [], args := [] }

/-- 'laws.FnExactNewDisk': WHATEVER THE INPUT: true; the input reads as it did. -/
def fnExactNewDiskSpec : ChangeSpec := { name := "fnExactNewDisk", fn := fun _ => fun
  | [d] => { results := [.lit (.bool true)], args := [d] }
  | _ => none }
def fnExactNewDiskRow : OpenClaim := { program := "ytcpcifgpcemaeaa", sum := "660f80890348ffcb77c60a9d5de832911e8cb1d113034d114f0dd4344c971e03", func := "loop.example/g00340/laws.FnExactNewDisk", spec := "fnExactNewDisk", apart := false }
def FnExactNewDiskSaid : Prop := fnExactNewDiskRow.holds Try.pinned (OpenSpec.ofChange fnExactNewDiskSpec)

/-- ITS FALSE NEIGHBOUR: 'it returns false'. Refute it at one input. -/
def fnExactNewDiskWrong : ChangeSpec := { name := "fnExactNewDisk", fn := fun _ => fun
  | [d] => { results := [.lit (.bool false)], args := [d] }
  | _ => none }
def FnExactNewDiskWrongFalsely : Prop := fnExactNewDiskRow.holds Try.pinned (OpenSpec.ofChange fnExactNewDiskWrong)

/-- 'laws.FnExactDiskOK': WHATEVER THE INPUT: true; the input reads as it did. -/
def fnExactDiskOKSpec : ChangeSpec := { name := "fnExactDiskOK", fn := fun _ => fun
  | [d] => { results := [.lit (.bool true)], args := [d] }
  | _ => none }
def fnExactDiskOKRow : OpenClaim := { program := "ytcpcifgpcemaeaa", sum := "660f80890348ffcb77c60a9d5de832911e8cb1d113034d114f0dd4344c971e03", func := "loop.example/g00340/laws.FnExactDiskOK", spec := "fnExactDiskOK", unfollowed := true, recurses := true, apart := false }
def FnExactDiskOKSaid : Prop := fnExactDiskOKRow.holds Try.pinned (OpenSpec.ofChange fnExactDiskOKSpec)

/-- ITS FALSE NEIGHBOUR: 'it returns false'. Refute it at one input. -/
def fnExactDiskOKWrong : ChangeSpec := { name := "fnExactDiskOK", fn := fun _ => fun
  | [d] => { results := [.lit (.bool false)], args := [d] }
  | _ => none }
def FnExactDiskOKWrongFalsely : Prop := fnExactDiskOKRow.holds Try.pinned (OpenSpec.ofChange fnExactDiskOKWrong)

/-- 'laws.FnExactDiskRead': WHATEVER THE INPUT: true; the input reads as it did. -/
def fnExactDiskReadSpec : ChangeSpec := { name := "fnExactDiskRead", fn := fun _ => fun
  | [d1, d2] => { results := [.lit (.bool true)], args := [d1, d2] }
  | _ => none }
def fnExactDiskReadRow : OpenClaim := { program := "ytcpcifgpcemaeaa", sum := "660f80890348ffcb77c60a9d5de832911e8cb1d113034d114f0dd4344c971e03", func := "loop.example/g00340/laws.FnExactDiskRead", spec := "fnExactDiskRead", unfollowed := true, recurses := true, apart := false }
def FnExactDiskReadSaid : Prop := fnExactDiskReadRow.holds Try.pinned (OpenSpec.ofChange fnExactDiskReadSpec)

/-- ITS FALSE NEIGHBOUR: 'it returns false'. Refute it at one input. -/
def fnExactDiskReadWrong : ChangeSpec := { name := "fnExactDiskRead", fn := fun _ => fun
  | [d1, d2] => { results := [.lit (.bool false)], args := [d1, d2] }
  | _ => none }
def FnExactDiskReadWrongFalsely : Prop := fnExactDiskReadRow.holds Try.pinned (OpenSpec.ofChange fnExactDiskReadWrong)

/-- 'laws.FnExactDiskWrite': WHATEVER THE INPUT: true; the input reads as it did. -/
def fnExactDiskWriteSpec : ChangeSpec := { name := "fnExactDiskWrite", fn := fun _ => fun
  | [d1, d2, d3] => { results := [.lit (.bool true)], args := [d1, d2, d3] }
  | _ => none }
def fnExactDiskWriteRow : OpenClaim := { program := "ytcpcifgpcemaeaa", sum := "660f80890348ffcb77c60a9d5de832911e8cb1d113034d114f0dd4344c971e03", func := "loop.example/g00340/laws.FnExactDiskWrite", spec := "fnExactDiskWrite", unfollowed := true, recurses := true, apart := false }
def FnExactDiskWriteSaid : Prop := fnExactDiskWriteRow.holds Try.pinned (OpenSpec.ofChange fnExactDiskWriteSpec)

/-- ITS FALSE NEIGHBOUR: 'it returns false'. Refute it at one input. -/
def fnExactDiskWriteWrong : ChangeSpec := { name := "fnExactDiskWrite", fn := fun _ => fun
  | [d1, d2, d3] => { results := [.lit (.bool false)], args := [d1, d2, d3] }
  | _ => none }
def FnExactDiskWriteWrongFalsely : Prop := fnExactDiskWriteRow.holds Try.pinned (OpenSpec.ofChange fnExactDiskWriteWrong)

/-- 'laws.FnExactDiskArm': WHATEVER THE INPUT: true; the input reads as it did. -/
def fnExactDiskArmSpec : ChangeSpec := { name := "fnExactDiskArm", fn := fun _ => fun
  | [d1, d2] => { results := [.lit (.bool true)], args := [d1, d2] }
  | _ => none }
def fnExactDiskArmRow : OpenClaim := { program := "ytcpcifgpcemaeaa", sum := "660f80890348ffcb77c60a9d5de832911e8cb1d113034d114f0dd4344c971e03", func := "loop.example/g00340/laws.FnExactDiskArm", spec := "fnExactDiskArm", unfollowed := true, recurses := true, apart := false }
def FnExactDiskArmSaid : Prop := fnExactDiskArmRow.holds Try.pinned (OpenSpec.ofChange fnExactDiskArmSpec)

/-- ITS FALSE NEIGHBOUR: 'it returns false'. Refute it at one input. -/
def fnExactDiskArmWrong : ChangeSpec := { name := "fnExactDiskArm", fn := fun _ => fun
  | [d1, d2] => { results := [.lit (.bool false)], args := [d1, d2] }
  | _ => none }
def FnExactDiskArmWrongFalsely : Prop := fnExactDiskArmRow.holds Try.pinned (OpenSpec.ofChange fnExactDiskArmWrong)

/-- 'laws.FnExactDiskCrash': WHATEVER THE INPUT: true; the input reads as it did. -/
def fnExactDiskCrashSpec : ChangeSpec := { name := "fnExactDiskCrash", fn := fun _ => fun
  | [d1, d2] => { results := [.lit (.bool true)], args := [d1, d2] }
  | _ => none }
def fnExactDiskCrashRow : OpenClaim := { program := "ytcpcifgpcemaeaa", sum := "660f80890348ffcb77c60a9d5de832911e8cb1d113034d114f0dd4344c971e03", func := "loop.example/g00340/laws.FnExactDiskCrash", spec := "fnExactDiskCrash", unfollowed := true, recurses := true, apart := false }
def FnExactDiskCrashSaid : Prop := fnExactDiskCrashRow.holds Try.pinned (OpenSpec.ofChange fnExactDiskCrashSpec)

/-- ITS FALSE NEIGHBOUR: 'it returns false'. Refute it at one input. -/
def fnExactDiskCrashWrong : ChangeSpec := { name := "fnExactDiskCrash", fn := fun _ => fun
  | [d1, d2] => { results := [.lit (.bool false)], args := [d1, d2] }
  | _ => none }
def FnExactDiskCrashWrongFalsely : Prop := fnExactDiskCrashRow.holds Try.pinned (OpenSpec.ofChange fnExactDiskCrashWrong)

/-- 'laws.FnExactDiskSync': WHATEVER THE INPUT: true; the input reads as it did. -/
def fnExactDiskSyncSpec : ChangeSpec := { name := "fnExactDiskSync", fn := fun _ => fun
  | [d] => { results := [.lit (.bool true)], args := [d] }
  | _ => none }
def fnExactDiskSyncRow : OpenClaim := { program := "ytcpcifgpcemaeaa", sum := "660f80890348ffcb77c60a9d5de832911e8cb1d113034d114f0dd4344c971e03", func := "loop.example/g00340/laws.FnExactDiskSync", spec := "fnExactDiskSync", unfollowed := true, recurses := true, apart := false }
def FnExactDiskSyncSaid : Prop := fnExactDiskSyncRow.holds Try.pinned (OpenSpec.ofChange fnExactDiskSyncSpec)

/-- ITS FALSE NEIGHBOUR: 'it returns false'. Refute it at one input. -/
def fnExactDiskSyncWrong : ChangeSpec := { name := "fnExactDiskSync", fn := fun _ => fun
  | [d] => { results := [.lit (.bool false)], args := [d] }
  | _ => none }
def FnExactDiskSyncWrongFalsely : Prop := fnExactDiskSyncRow.holds Try.pinned (OpenSpec.ofChange fnExactDiskSyncWrong)

/-- 'laws.FnExactDiskPending': WHATEVER THE INPUT: true; the input reads as it did. -/
def fnExactDiskPendingSpec : ChangeSpec := { name := "fnExactDiskPending", fn := fun _ => fun
  | [d] => { results := [.lit (.bool true)], args := [d] }
  | _ => none }
def fnExactDiskPendingRow : OpenClaim := { program := "ytcpcifgpcemaeaa", sum := "660f80890348ffcb77c60a9d5de832911e8cb1d113034d114f0dd4344c971e03", func := "loop.example/g00340/laws.FnExactDiskPending", spec := "fnExactDiskPending", unfollowed := true, recurses := true, apart := false }
def FnExactDiskPendingSaid : Prop := fnExactDiskPendingRow.holds Try.pinned (OpenSpec.ofChange fnExactDiskPendingSpec)

/-- ITS FALSE NEIGHBOUR: 'it returns false'. Refute it at one input. -/
def fnExactDiskPendingWrong : ChangeSpec := { name := "fnExactDiskPending", fn := fun _ => fun
  | [d] => { results := [.lit (.bool false)], args := [d] }
  | _ => none }
def FnExactDiskPendingWrongFalsely : Prop := fnExactDiskPendingRow.holds Try.pinned (OpenSpec.ofChange fnExactDiskPendingWrong)

/-- 'laws.FnDisk': WHATEVER THE INPUT: true; the input reads as it did. -/
def fnDiskSpec : ChangeSpec := { name := "fnDisk", fn := fun _ => fun
  | [d1, d2] => { results := [.lit (.bool true)], args := [d1, d2] }
  | _ => none }
def fnDiskRow : OpenClaim := { program := "ytcpcifgpcemaeaa", sum := "660f80890348ffcb77c60a9d5de832911e8cb1d113034d114f0dd4344c971e03", func := "loop.example/g00340/laws.FnDisk", spec := "fnDisk", unfollowed := true, recurses := true, apart := false }
def FnDiskSaid : Prop := fnDiskRow.holds Try.pinned (OpenSpec.ofChange fnDiskSpec)

/-- ITS FALSE NEIGHBOUR: 'it returns false'. Refute it at one input. -/
def fnDiskWrong : ChangeSpec := { name := "fnDisk", fn := fun _ => fun
  | [d1, d2] => { results := [.lit (.bool false)], args := [d1, d2] }
  | _ => none }
def FnDiskWrongFalsely : Prop := fnDiskRow.holds Try.pinned (OpenSpec.ofChange fnDiskWrong)

/-- 'laws.FnExactNewHeap': WHATEVER THE INPUT: true; the input reads as it did. -/
def fnExactNewHeapSpec : ChangeSpec := { name := "fnExactNewHeap", fn := fun _ => fun
  | [] => { results := [.lit (.bool true)], args := [] }
  | _ => none }
def fnExactNewHeapRow : OpenClaim := { program := "ytcpcifgpcemaeaa", sum := "660f80890348ffcb77c60a9d5de832911e8cb1d113034d114f0dd4344c971e03", func := "loop.example/g00340/laws.FnExactNewHeap", spec := "fnExactNewHeap", apart := false }
def FnExactNewHeapSaid : Prop := fnExactNewHeapRow.holds Try.pinned (OpenSpec.ofChange fnExactNewHeapSpec)

/-- ITS FALSE NEIGHBOUR: 'it returns false'. Refute it at one input. -/
def fnExactNewHeapWrong : ChangeSpec := { name := "fnExactNewHeap", fn := fun _ => fun
  | [] => { results := [.lit (.bool false)], args := [] }
  | _ => none }
def FnExactNewHeapWrongFalsely : Prop := fnExactNewHeapRow.holds Try.pinned (OpenSpec.ofChange fnExactNewHeapWrong)

/-- 'laws.FnExactNodeOK': WHATEVER THE INPUT: true; the input reads as it did. -/
def fnExactNodeOKSpec : ChangeSpec := { name := "fnExactNodeOK", fn := fun _ => fun
  | [d] => { results := [.lit (.bool true)], args := [d] }
  | _ => none }
def fnExactNodeOKRow : OpenClaim := { program := "ytcpcifgpcemaeaa", sum := "660f80890348ffcb77c60a9d5de832911e8cb1d113034d114f0dd4344c971e03", func := "loop.example/g00340/laws.FnExactNodeOK", spec := "fnExactNodeOK", apart := false }
def FnExactNodeOKSaid : Prop := fnExactNodeOKRow.holds Try.pinned (OpenSpec.ofChange fnExactNodeOKSpec)

/-- ITS FALSE NEIGHBOUR: 'it returns false'. Refute it at one input. -/
def fnExactNodeOKWrong : ChangeSpec := { name := "fnExactNodeOK", fn := fun _ => fun
  | [d] => { results := [.lit (.bool false)], args := [d] }
  | _ => none }
def FnExactNodeOKWrongFalsely : Prop := fnExactNodeOKRow.holds Try.pinned (OpenSpec.ofChange fnExactNodeOKWrong)

/-- 'laws.FnExactSuperOK': WHATEVER THE INPUT: true; the input reads as it did. -/
def fnExactSuperOKSpec : ChangeSpec := { name := "fnExactSuperOK", fn := fun _ => fun
  | [d] => { results := [.lit (.bool true)], args := [d] }
  | _ => none }
def fnExactSuperOKRow : OpenClaim := { program := "ytcpcifgpcemaeaa", sum := "660f80890348ffcb77c60a9d5de832911e8cb1d113034d114f0dd4344c971e03", func := "loop.example/g00340/laws.FnExactSuperOK", spec := "fnExactSuperOK", apart := false }
def FnExactSuperOKSaid : Prop := fnExactSuperOKRow.holds Try.pinned (OpenSpec.ofChange fnExactSuperOKSpec)

/-- ITS FALSE NEIGHBOUR: 'it returns false'. Refute it at one input. -/
def fnExactSuperOKWrong : ChangeSpec := { name := "fnExactSuperOK", fn := fun _ => fun
  | [d] => { results := [.lit (.bool false)], args := [d] }
  | _ => none }
def FnExactSuperOKWrongFalsely : Prop := fnExactSuperOKRow.holds Try.pinned (OpenSpec.ofChange fnExactSuperOKWrong)

/- THE SECOND FORM. 'bulk': how many values and letters a reading holds, each counted each time it is reached (what is shared counts as often as it is met; a slice's spare places count too). A statement '..UptoSaid' is the law's where the arguments, and the package variables that the reading takes, are together of bulk at most 1048576: NARROWER than '..Said'. Prove '..Said' where nothing that the law and all that it calls make is longer than what came in: it says more and counts as full. Else prove '..UptoSaid'. A law counts once. -/
mutual
def uptoBulk {H : Type} : DataW H → Nat
  | .lit (.string bytes) => bytes.length + 1
  | .lit _ => 1
  | .nil => 1
  | .ptr d => uptoBulk d + 1
  | .slice elems spare => uptoBulkAll elems + uptoBulkAll spare + 1
  | .agg parts => uptoBulkAll parts + 1
  | .iface _ d => uptoBulk d + 1
  | .map entries => uptoBulkEntries entries + 1
  | .held _ => 1
def uptoBulkAll {H : Type} : List (DataW H) → Nat
  | [] => 0
  | d :: r => uptoBulk d + uptoBulkAll r
def uptoBulkEntries {H : Type} : List (Lit × DataW H) → Nat
  | [] => 0
  | x :: r => uptoBulkEntry x + uptoBulkEntries r
def uptoBulkEntry {H : Type} : Lit × DataW H → Nat
  | (.string bytes, d) => bytes.length + uptoBulk d + 1
  | (_, d) => uptoBulk d + 1
 end
def uptoSmall : (H : Type) → List (DataW H) → Bool := fun _ ds => decide (uptoBulkAll ds ≤ 1048576)
def OpenSpec.upto (s : _root_.Go.ChangeSpec) : _root_.Go.OpenSpec := { _root_.Go.OpenSpec.ofChange s with cond := some uptoSmall }

/-- 'laws.FnExactNewDisk', WHERE WHAT IT READS IS OF BULK AT MOST 1048576: true; the input reads as it did. -/
def fnExactNewDiskUptoRow : OpenClaim := { program := "ytcpcifgpcemaeaa", sum := "660f80890348ffcb77c60a9d5de832911e8cb1d113034d114f0dd4344c971e03", func := "loop.example/g00340/laws.FnExactNewDisk", spec := "fnExactNewDisk", apart := false, narrowed := true }
def FnExactNewDiskUptoSaid : Prop := fnExactNewDiskUptoRow.holds Try.pinned (OpenSpec.upto fnExactNewDiskSpec)

/-- 'laws.FnExactDiskOK', WHERE WHAT IT READS IS OF BULK AT MOST 1048576: true; the input reads as it did. -/
def fnExactDiskOKUptoRow : OpenClaim := { program := "ytcpcifgpcemaeaa", sum := "660f80890348ffcb77c60a9d5de832911e8cb1d113034d114f0dd4344c971e03", func := "loop.example/g00340/laws.FnExactDiskOK", spec := "fnExactDiskOK", unfollowed := true, recurses := true, apart := false, narrowed := true }
def FnExactDiskOKUptoSaid : Prop := fnExactDiskOKUptoRow.holds Try.pinned (OpenSpec.upto fnExactDiskOKSpec)

/-- 'laws.FnExactDiskRead', WHERE WHAT IT READS IS OF BULK AT MOST 1048576: true; the input reads as it did. -/
def fnExactDiskReadUptoRow : OpenClaim := { program := "ytcpcifgpcemaeaa", sum := "660f80890348ffcb77c60a9d5de832911e8cb1d113034d114f0dd4344c971e03", func := "loop.example/g00340/laws.FnExactDiskRead", spec := "fnExactDiskRead", unfollowed := true, recurses := true, apart := false, narrowed := true }
def FnExactDiskReadUptoSaid : Prop := fnExactDiskReadUptoRow.holds Try.pinned (OpenSpec.upto fnExactDiskReadSpec)

/-- 'laws.FnExactDiskWrite', WHERE WHAT IT READS IS OF BULK AT MOST 1048576: true; the input reads as it did. -/
def fnExactDiskWriteUptoRow : OpenClaim := { program := "ytcpcifgpcemaeaa", sum := "660f80890348ffcb77c60a9d5de832911e8cb1d113034d114f0dd4344c971e03", func := "loop.example/g00340/laws.FnExactDiskWrite", spec := "fnExactDiskWrite", unfollowed := true, recurses := true, apart := false, narrowed := true }
def FnExactDiskWriteUptoSaid : Prop := fnExactDiskWriteUptoRow.holds Try.pinned (OpenSpec.upto fnExactDiskWriteSpec)

/-- 'laws.FnExactDiskArm', WHERE WHAT IT READS IS OF BULK AT MOST 1048576: true; the input reads as it did. -/
def fnExactDiskArmUptoRow : OpenClaim := { program := "ytcpcifgpcemaeaa", sum := "660f80890348ffcb77c60a9d5de832911e8cb1d113034d114f0dd4344c971e03", func := "loop.example/g00340/laws.FnExactDiskArm", spec := "fnExactDiskArm", unfollowed := true, recurses := true, apart := false, narrowed := true }
def FnExactDiskArmUptoSaid : Prop := fnExactDiskArmUptoRow.holds Try.pinned (OpenSpec.upto fnExactDiskArmSpec)

/-- 'laws.FnExactDiskCrash', WHERE WHAT IT READS IS OF BULK AT MOST 1048576: true; the input reads as it did. -/
def fnExactDiskCrashUptoRow : OpenClaim := { program := "ytcpcifgpcemaeaa", sum := "660f80890348ffcb77c60a9d5de832911e8cb1d113034d114f0dd4344c971e03", func := "loop.example/g00340/laws.FnExactDiskCrash", spec := "fnExactDiskCrash", unfollowed := true, recurses := true, apart := false, narrowed := true }
def FnExactDiskCrashUptoSaid : Prop := fnExactDiskCrashUptoRow.holds Try.pinned (OpenSpec.upto fnExactDiskCrashSpec)

/-- 'laws.FnExactDiskSync', WHERE WHAT IT READS IS OF BULK AT MOST 1048576: true; the input reads as it did. -/
def fnExactDiskSyncUptoRow : OpenClaim := { program := "ytcpcifgpcemaeaa", sum := "660f80890348ffcb77c60a9d5de832911e8cb1d113034d114f0dd4344c971e03", func := "loop.example/g00340/laws.FnExactDiskSync", spec := "fnExactDiskSync", unfollowed := true, recurses := true, apart := false, narrowed := true }
def FnExactDiskSyncUptoSaid : Prop := fnExactDiskSyncUptoRow.holds Try.pinned (OpenSpec.upto fnExactDiskSyncSpec)

/-- 'laws.FnExactDiskPending', WHERE WHAT IT READS IS OF BULK AT MOST 1048576: true; the input reads as it did. -/
def fnExactDiskPendingUptoRow : OpenClaim := { program := "ytcpcifgpcemaeaa", sum := "660f80890348ffcb77c60a9d5de832911e8cb1d113034d114f0dd4344c971e03", func := "loop.example/g00340/laws.FnExactDiskPending", spec := "fnExactDiskPending", unfollowed := true, recurses := true, apart := false, narrowed := true }
def FnExactDiskPendingUptoSaid : Prop := fnExactDiskPendingUptoRow.holds Try.pinned (OpenSpec.upto fnExactDiskPendingSpec)

/-- 'laws.FnDisk', WHERE WHAT IT READS IS OF BULK AT MOST 1048576: true; the input reads as it did. -/
def fnDiskUptoRow : OpenClaim := { program := "ytcpcifgpcemaeaa", sum := "660f80890348ffcb77c60a9d5de832911e8cb1d113034d114f0dd4344c971e03", func := "loop.example/g00340/laws.FnDisk", spec := "fnDisk", unfollowed := true, recurses := true, apart := false, narrowed := true }
def FnDiskUptoSaid : Prop := fnDiskUptoRow.holds Try.pinned (OpenSpec.upto fnDiskSpec)

/-- 'laws.FnExactNewHeap', WHERE WHAT IT READS IS OF BULK AT MOST 1048576: true; the input reads as it did. -/
def fnExactNewHeapUptoRow : OpenClaim := { program := "ytcpcifgpcemaeaa", sum := "660f80890348ffcb77c60a9d5de832911e8cb1d113034d114f0dd4344c971e03", func := "loop.example/g00340/laws.FnExactNewHeap", spec := "fnExactNewHeap", apart := false, narrowed := true }
def FnExactNewHeapUptoSaid : Prop := fnExactNewHeapUptoRow.holds Try.pinned (OpenSpec.upto fnExactNewHeapSpec)

/-- 'laws.FnExactNodeOK', WHERE WHAT IT READS IS OF BULK AT MOST 1048576: true; the input reads as it did. -/
def fnExactNodeOKUptoRow : OpenClaim := { program := "ytcpcifgpcemaeaa", sum := "660f80890348ffcb77c60a9d5de832911e8cb1d113034d114f0dd4344c971e03", func := "loop.example/g00340/laws.FnExactNodeOK", spec := "fnExactNodeOK", apart := false, narrowed := true }
def FnExactNodeOKUptoSaid : Prop := fnExactNodeOKUptoRow.holds Try.pinned (OpenSpec.upto fnExactNodeOKSpec)

/-- 'laws.FnExactSuperOK', WHERE WHAT IT READS IS OF BULK AT MOST 1048576: true; the input reads as it did. -/
def fnExactSuperOKUptoRow : OpenClaim := { program := "ytcpcifgpcemaeaa", sum := "660f80890348ffcb77c60a9d5de832911e8cb1d113034d114f0dd4344c971e03", func := "loop.example/g00340/laws.FnExactSuperOK", spec := "fnExactSuperOK", apart := false, narrowed := true }
def FnExactSuperOKUptoSaid : Prop := fnExactSuperOKUptoRow.holds Try.pinned (OpenSpec.upto fnExactSuperOKSpec)

end Rows
end Go.Proofs.Ytcpcifgpcemaeaa
