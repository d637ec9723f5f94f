/-
  No cell of these rows narrows 'for every input' (looked for: loops, veiled, ifaces, maps, wideKeys, modest, calm, conditions, laid).
  DERIVED. THE GIVEN ROWS OF THIS SEAT. 2 by the template 'for every input the law returns true; each argument reads behind the call as it read before'; 0 by the template 'total and deterministic' (their statements: YtmnnmddfmmaohaaTotals.lean).
  GIVEN WITH THE SEED: the statements are not yours to turn. If you find one false, say at which input.
  Laid BY PROGRAM, IN A SANDBOX (cutbox-rows.mjs): the forced cells as the released guide's own fill.sh prints them over the translation ba2864c5a69457cb… (all of the seat's roots in one cut). By AI agents, Wed Nov 11 2026. No macro, syntax, notation, axiom, sorry.
-/
import Derived.Test.YtmnnmddfmmaohaaChecked
import GoSem.Claim
import GoSem.ClaimJoined
import GoSem.ClaimMapViews
import Derived.JoinedTies
import Derived.KernelRfl
namespace Go.Proofs.Ytmnnmddfmmaohaa
/- THE CELL 'sum', in the pinned program and in every row, IS THE sha256 OF THE DUMP (.gsa) THAT YtmnnmddfmmaohaaProg.lean LOADS. Nothing in Lean hashes anything: it is a label: what it is worth is what the hold of that sum in a sandbox is worth. -/
noncomputable def Try.pinned : Pinned := { name := "ytmnnmddfmmaohaa", sum := "ba2864c5a69457cb9397ef67b22f19c8d01c9c1e380cc29c8ad3305dd89870a8", checked := Try.checked }
namespace Rows
def none {H : Type} : Left H := { results := [], args := [] }

/-- 'laws.FnStains': WHATEVER THE INPUT: true; the input reads as it did. -/
def fnStainsSpec : ChangeSpec := { name := "fnStains", fn := fun _ => fun
  | [d1, d2] => { results := [.lit (.bool true)], args := [d1, d2] }
  | _ => none }
def fnStainsRow : OpenClaim := { program := "ytmnnmddfmmaohaa", sum := "ba2864c5a69457cb9397ef67b22f19c8d01c9c1e380cc29c8ad3305dd89870a8", func := "loop.example/g00949/laws.FnStains", spec := "fnStains", inPlace := ["internal/bytealg.IndexByteString", "internal/bytealg.CountString", "internal/bytealg.IndexString"], unfollowed := true, recurses := true, named := ["internal/bytealg.MaxLen"], apart := false }
def FnStainsSaid : Prop := fnStainsRow.holds Try.pinned (OpenSpec.ofChange fnStainsSpec)

/-- ITS FALSE NEIGHBOUR: 'it returns false'. Refute it at one input. -/
def fnStainsWrong : ChangeSpec := { name := "fnStains", fn := fun _ => fun
  | [d1, d2] => { results := [.lit (.bool false)], args := [d1, d2] }
  | _ => none }
def FnStainsWrongFalsely : Prop := fnStainsRow.holds Try.pinned (OpenSpec.ofChange fnStainsWrong)

/-- 'laws.FnPunchJobs': WHATEVER THE INPUT: true; the input reads as it did. -/
def fnPunchJobsSpec : ChangeSpec := { name := "fnPunchJobs", fn := fun _ => fun
  | [d1, d2] => { results := [.lit (.bool true)], args := [d1, d2] }
  | _ => none }
def fnPunchJobsRow : OpenClaim := { program := "ytmnnmddfmmaohaa", sum := "ba2864c5a69457cb9397ef67b22f19c8d01c9c1e380cc29c8ad3305dd89870a8", func := "loop.example/g00949/laws.FnPunchJobs", spec := "fnPunchJobs", inPlace := ["internal/reflectlite.ValueOf", "internal/reflectlite.Swapper", "(internal/reflectlite.Value).Len"], unfollowed := true, recurses := true, apart := false }
def FnPunchJobsSaid : Prop := fnPunchJobsRow.holds Try.pinned (OpenSpec.ofChange fnPunchJobsSpec)

/-- ITS FALSE NEIGHBOUR: 'it returns false'. Refute it at one input. -/
def fnPunchJobsWrong : ChangeSpec := { name := "fnPunchJobs", fn := fun _ => fun
  | [d1, d2] => { results := [.lit (.bool false)], args := [d1, d2] }
  | _ => none }
def FnPunchJobsWrongFalsely : Prop := fnPunchJobsRow.holds Try.pinned (OpenSpec.ofChange fnPunchJobsWrong)

/- THE SECOND FORM. 'bulk': how many values and letters a reading holds, each counted each time it is reached (what is shared counts as often as it is met; a slice's spare places count too). A statement '..UptoSaid' is the law's where the arguments, and the package variables that the reading takes, are together of bulk at most 1048576: NARROWER than '..Said'. Prove '..Said' where nothing that the law and all that it calls make is longer than what came in: it says more and counts as full. Else prove '..UptoSaid'. A law counts once. -/
mutual
def uptoBulk {H : Type} : DataW H → Nat
  | .lit (.string bytes) => bytes.length + 1
  | .lit _ => 1
  | .nil => 1
  | .ptr d => uptoBulk d + 1
  | .slice elems spare => uptoBulkAll elems + uptoBulkAll spare + 1
  | .agg parts => uptoBulkAll parts + 1
  | .iface _ d => uptoBulk d + 1
  | .map entries => uptoBulkEntries entries + 1
  | .held _ => 1
def uptoBulkAll {H : Type} : List (DataW H) → Nat
  | [] => 0
  | d :: r => uptoBulk d + uptoBulkAll r
def uptoBulkEntries {H : Type} : List (Lit × DataW H) → Nat
  | [] => 0
  | x :: r => uptoBulkEntry x + uptoBulkEntries r
def uptoBulkEntry {H : Type} : Lit × DataW H → Nat
  | (.string bytes, d) => bytes.length + uptoBulk d + 1
  | (_, d) => uptoBulk d + 1
 end
def uptoSmall : (H : Type) → List (DataW H) → Bool := fun _ ds => decide (uptoBulkAll ds ≤ 1048576)
def OpenSpec.upto (s : _root_.Go.ChangeSpec) : _root_.Go.OpenSpec := { _root_.Go.OpenSpec.ofChange s with cond := some uptoSmall }

/-- 'laws.FnStains', WHERE WHAT IT READS IS OF BULK AT MOST 1048576: true; the input reads as it did. -/
def fnStainsUptoRow : OpenClaim := { program := "ytmnnmddfmmaohaa", sum := "ba2864c5a69457cb9397ef67b22f19c8d01c9c1e380cc29c8ad3305dd89870a8", func := "loop.example/g00949/laws.FnStains", spec := "fnStains", inPlace := ["internal/bytealg.IndexByteString", "internal/bytealg.CountString", "internal/bytealg.IndexString"], unfollowed := true, recurses := true, named := ["internal/bytealg.MaxLen"], apart := false, narrowed := true }
def FnStainsUptoSaid : Prop := fnStainsUptoRow.holds Try.pinned (OpenSpec.upto fnStainsSpec)

/-- 'laws.FnPunchJobs', WHERE WHAT IT READS IS OF BULK AT MOST 1048576: true; the input reads as it did. -/
def fnPunchJobsUptoRow : OpenClaim := { program := "ytmnnmddfmmaohaa", sum := "ba2864c5a69457cb9397ef67b22f19c8d01c9c1e380cc29c8ad3305dd89870a8", func := "loop.example/g00949/laws.FnPunchJobs", spec := "fnPunchJobs", inPlace := ["internal/reflectlite.ValueOf", "internal/reflectlite.Swapper", "(internal/reflectlite.Value).Len"], unfollowed := true, recurses := true, apart := false, narrowed := true }
def FnPunchJobsUptoSaid : Prop := fnPunchJobsUptoRow.holds Try.pinned (OpenSpec.upto fnPunchJobsSpec)

end Rows
end Go.Proofs.Ytmnnmddfmmaohaa
