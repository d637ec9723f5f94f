/-
  No cell of these rows narrows 'for every input' (looked for: loops, veiled, ifaces, maps, wideKeys, modest, calm, conditions, laid).
  DERIVED. THE GIVEN ROWS OF THIS SEAT. 4 by the template 'for every input the law returns true; each argument reads behind the call as it read before'; 0 by the template 'total and deterministic' (their statements: YtcbfpfkkobbmaaaTotals.lean).
  GIVEN WITH THE SEED: the statements are not yours to turn. If you find one false, say at which input.
  Laid BY PROGRAM, IN A SANDBOX (cutbox-rows.mjs): the forced cells as the released guide's own fill.sh prints them over the translation 784269cf052500bd… (all of the seat's roots in one cut). By AI agents, Wed Nov 11 2026. No macro, syntax, notation, axiom, sorry.
-/
import Derived.Test.YtcbfpfkkobbmaaaChecked
import GoSem.Claim
import GoSem.ClaimJoined
import GoSem.ClaimMapViews
import Derived.JoinedTies
import Derived.KernelRfl
namespace Go.Proofs.Ytcbfpfkkobbmaaa
/- THE CELL 'sum', in the pinned program and in every row, IS THE sha256 OF THE DUMP (.gsa) THAT YtcbfpfkkobbmaaaProg.lean LOADS. Nothing in Lean hashes anything: it is a label: what it is worth is what the hold of that sum in a sandbox is worth. -/
noncomputable def Try.pinned : Pinned := { name := "ytcbfpfkkobbmaaa", sum := "784269cf052500bd0b183be7bf2dd3227206ba01a649e2b536902b446f1cc0c2", checked := Try.checked }
namespace Rows
def none {H : Type} : Left H := { results := [], args := [] }

/-- 'laws.FnExactPunchedBy': WHATEVER THE INPUT: true; the input reads as it did. -/
def fnExactPunchedBySpec : ChangeSpec := { name := "fnExactPunchedBy", fn := fun _ => fun
  | [d] => { results := [.lit (.bool true)], args := [d] }
  | _ => none }
def fnExactPunchedByRow : OpenClaim := { program := "ytcbfpfkkobbmaaa", sum := "784269cf052500bd0b183be7bf2dd3227206ba01a649e2b536902b446f1cc0c2", func := "loop.example/g00949/laws.FnExactPunchedBy", spec := "fnExactPunchedBy", inPlace := ["internal/reflectlite.ValueOf", "internal/reflectlite.Swapper", "(internal/reflectlite.Value).Len"], unfollowed := true, recurses := true, apart := false }
def FnExactPunchedBySaid : Prop := fnExactPunchedByRow.holds Try.pinned (OpenSpec.ofChange fnExactPunchedBySpec)

/-- ITS FALSE NEIGHBOUR: 'it returns false'. Refute it at one input. -/
def fnExactPunchedByWrong : ChangeSpec := { name := "fnExactPunchedBy", fn := fun _ => fun
  | [d] => { results := [.lit (.bool false)], args := [d] }
  | _ => none }
def FnExactPunchedByWrongFalsely : Prop := fnExactPunchedByRow.holds Try.pinned (OpenSpec.ofChange fnExactPunchedByWrong)

/-- 'laws.FnExactPunchedNow': WHATEVER THE INPUT: true; the input reads as it did. -/
def fnExactPunchedNowSpec : ChangeSpec := { name := "fnExactPunchedNow", fn := fun _ => fun
  | [d] => { results := [.lit (.bool true)], args := [d] }
  | _ => none }
def fnExactPunchedNowRow : OpenClaim := { program := "ytcbfpfkkobbmaaa", sum := "784269cf052500bd0b183be7bf2dd3227206ba01a649e2b536902b446f1cc0c2", func := "loop.example/g00949/laws.FnExactPunchedNow", spec := "fnExactPunchedNow", inPlace := ["internal/reflectlite.ValueOf", "internal/reflectlite.Swapper", "(internal/reflectlite.Value).Len"], unfollowed := true, recurses := true, apart := false }
def FnExactPunchedNowSaid : Prop := fnExactPunchedNowRow.holds Try.pinned (OpenSpec.ofChange fnExactPunchedNowSpec)

/-- ITS FALSE NEIGHBOUR: 'it returns false'. Refute it at one input. -/
def fnExactPunchedNowWrong : ChangeSpec := { name := "fnExactPunchedNow", fn := fun _ => fun
  | [d] => { results := [.lit (.bool false)], args := [d] }
  | _ => none }
def FnExactPunchedNowWrongFalsely : Prop := fnExactPunchedNowRow.holds Try.pinned (OpenSpec.ofChange fnExactPunchedNowWrong)

/-- 'laws.FnExactHolesIn': WHATEVER THE INPUT: true; the input reads as it did. -/
def fnExactHolesInSpec : ChangeSpec := { name := "fnExactHolesIn", fn := fun _ => fun
  | [d] => { results := [.lit (.bool true)], args := [d] }
  | _ => none }
def fnExactHolesInRow : OpenClaim := { program := "ytcbfpfkkobbmaaa", sum := "784269cf052500bd0b183be7bf2dd3227206ba01a649e2b536902b446f1cc0c2", func := "loop.example/g00949/laws.FnExactHolesIn", spec := "fnExactHolesIn", inPlace := ["internal/bytealg.IndexByteString", "internal/bytealg.CountString", "internal/bytealg.IndexString", "internal/reflectlite.ValueOf", "internal/reflectlite.Swapper", "(internal/reflectlite.Value).Len"], unfollowed := true, recurses := true, named := ["internal/bytealg.MaxLen"], apart := false }
def FnExactHolesInSaid : Prop := fnExactHolesInRow.holds Try.pinned (OpenSpec.ofChange fnExactHolesInSpec)

/-- ITS FALSE NEIGHBOUR: 'it returns false'. Refute it at one input. -/
def fnExactHolesInWrong : ChangeSpec := { name := "fnExactHolesIn", fn := fun _ => fun
  | [d] => { results := [.lit (.bool false)], args := [d] }
  | _ => none }
def FnExactHolesInWrongFalsely : Prop := fnExactHolesInRow.holds Try.pinned (OpenSpec.ofChange fnExactHolesInWrong)

/-- 'laws.FnExactRowOrder': WHATEVER THE INPUT: true; the input reads as it did. -/
def fnExactRowOrderSpec : ChangeSpec := { name := "fnExactRowOrder", fn := fun _ => fun
  | [d] => { results := [.lit (.bool true)], args := [d] }
  | _ => none }
def fnExactRowOrderRow : OpenClaim := { program := "ytcbfpfkkobbmaaa", sum := "784269cf052500bd0b183be7bf2dd3227206ba01a649e2b536902b446f1cc0c2", func := "loop.example/g00949/laws.FnExactRowOrder", spec := "fnExactRowOrder", inPlace := ["internal/reflectlite.ValueOf", "internal/reflectlite.Swapper", "(internal/reflectlite.Value).Len"], unfollowed := true, recurses := true, apart := false }
def FnExactRowOrderSaid : Prop := fnExactRowOrderRow.holds Try.pinned (OpenSpec.ofChange fnExactRowOrderSpec)

/-- ITS FALSE NEIGHBOUR: 'it returns false'. Refute it at one input. -/
def fnExactRowOrderWrong : ChangeSpec := { name := "fnExactRowOrder", fn := fun _ => fun
  | [d] => { results := [.lit (.bool false)], args := [d] }
  | _ => none }
def FnExactRowOrderWrongFalsely : Prop := fnExactRowOrderRow.holds Try.pinned (OpenSpec.ofChange fnExactRowOrderWrong)

/- THE SECOND FORM. 'bulk': how many values and letters a reading holds, each counted each time it is reached (what is shared counts as often as it is met; a slice's spare places count too). A statement '..UptoSaid' is the law's where the arguments, and the package variables that the reading takes, are together of bulk at most 1048576: NARROWER than '..Said'. Prove '..Said' where nothing that the law and all that it calls make is longer than what came in: it says more and counts as full. Else prove '..UptoSaid'. A law counts once. -/
mutual
def uptoBulk {H : Type} : DataW H → Nat
  | .lit (.string bytes) => bytes.length + 1
  | .lit _ => 1
  | .nil => 1
  | .ptr d => uptoBulk d + 1
  | .slice elems spare => uptoBulkAll elems + uptoBulkAll spare + 1
  | .agg parts => uptoBulkAll parts + 1
  | .iface _ d => uptoBulk d + 1
  | .map entries => uptoBulkEntries entries + 1
  | .held _ => 1
def uptoBulkAll {H : Type} : List (DataW H) → Nat
  | [] => 0
  | d :: r => uptoBulk d + uptoBulkAll r
def uptoBulkEntries {H : Type} : List (Lit × DataW H) → Nat
  | [] => 0
  | x :: r => uptoBulkEntry x + uptoBulkEntries r
def uptoBulkEntry {H : Type} : Lit × DataW H → Nat
  | (.string bytes, d) => bytes.length + uptoBulk d + 1
  | (_, d) => uptoBulk d + 1
 end
def uptoSmall : (H : Type) → List (DataW H) → Bool := fun _ ds => decide (uptoBulkAll ds ≤ 1048576)
def OpenSpec.upto (s : _root_.Go.ChangeSpec) : _root_.Go.OpenSpec := { _root_.Go.OpenSpec.ofChange s with cond := some uptoSmall }

/-- 'laws.FnExactPunchedBy', WHERE WHAT IT READS IS OF BULK AT MOST 1048576: true; the input reads as it did. -/
def fnExactPunchedByUptoRow : OpenClaim := { program := "ytcbfpfkkobbmaaa", sum := "784269cf052500bd0b183be7bf2dd3227206ba01a649e2b536902b446f1cc0c2", func := "loop.example/g00949/laws.FnExactPunchedBy", spec := "fnExactPunchedBy", inPlace := ["internal/reflectlite.ValueOf", "internal/reflectlite.Swapper", "(internal/reflectlite.Value).Len"], unfollowed := true, recurses := true, apart := false, narrowed := true }
def FnExactPunchedByUptoSaid : Prop := fnExactPunchedByUptoRow.holds Try.pinned (OpenSpec.upto fnExactPunchedBySpec)

/-- 'laws.FnExactPunchedNow', WHERE WHAT IT READS IS OF BULK AT MOST 1048576: true; the input reads as it did. -/
def fnExactPunchedNowUptoRow : OpenClaim := { program := "ytcbfpfkkobbmaaa", sum := "784269cf052500bd0b183be7bf2dd3227206ba01a649e2b536902b446f1cc0c2", func := "loop.example/g00949/laws.FnExactPunchedNow", spec := "fnExactPunchedNow", inPlace := ["internal/reflectlite.ValueOf", "internal/reflectlite.Swapper", "(internal/reflectlite.Value).Len"], unfollowed := true, recurses := true, apart := false, narrowed := true }
def FnExactPunchedNowUptoSaid : Prop := fnExactPunchedNowUptoRow.holds Try.pinned (OpenSpec.upto fnExactPunchedNowSpec)

/-- 'laws.FnExactHolesIn', WHERE WHAT IT READS IS OF BULK AT MOST 1048576: true; the input reads as it did. -/
def fnExactHolesInUptoRow : OpenClaim := { program := "ytcbfpfkkobbmaaa", sum := "784269cf052500bd0b183be7bf2dd3227206ba01a649e2b536902b446f1cc0c2", func := "loop.example/g00949/laws.FnExactHolesIn", spec := "fnExactHolesIn", inPlace := ["internal/bytealg.IndexByteString", "internal/bytealg.CountString", "internal/bytealg.IndexString", "internal/reflectlite.ValueOf", "internal/reflectlite.Swapper", "(internal/reflectlite.Value).Len"], unfollowed := true, recurses := true, named := ["internal/bytealg.MaxLen"], apart := false, narrowed := true }
def FnExactHolesInUptoSaid : Prop := fnExactHolesInUptoRow.holds Try.pinned (OpenSpec.upto fnExactHolesInSpec)

/-- 'laws.FnExactRowOrder', WHERE WHAT IT READS IS OF BULK AT MOST 1048576: true; the input reads as it did. -/
def fnExactRowOrderUptoRow : OpenClaim := { program := "ytcbfpfkkobbmaaa", sum := "784269cf052500bd0b183be7bf2dd3227206ba01a649e2b536902b446f1cc0c2", func := "loop.example/g00949/laws.FnExactRowOrder", spec := "fnExactRowOrder", inPlace := ["internal/reflectlite.ValueOf", "internal/reflectlite.Swapper", "(internal/reflectlite.Value).Len"], unfollowed := true, recurses := true, apart := false, narrowed := true }
def FnExactRowOrderUptoSaid : Prop := fnExactRowOrderUptoRow.holds Try.pinned (OpenSpec.upto fnExactRowOrderSpec)

end Rows
end Go.Proofs.Ytcbfpfkkobbmaaa
