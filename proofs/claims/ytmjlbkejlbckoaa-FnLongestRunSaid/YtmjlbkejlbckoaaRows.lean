/-
  No cell of these rows narrows 'for every input' (looked for: loops, veiled, ifaces, maps, wideKeys, modest, calm, conditions, laid).
  DERIVED. THE GIVEN ROWS OF THIS SEAT. 9 by the template 'for every input the law returns true; each argument reads behind the call as it read before'; 0 by the template 'total and deterministic' (their statements: YtmjlbkejlbckoaaTotals.lean).
  GIVEN WITH THE SEED: the statements are not yours to turn. If you find one false, say at which input.
  Laid BY PROGRAM, IN A SANDBOX (cutbox-rows.mjs): the forced cells as the released guide's own fill.sh prints them over the translation 3ddbc03c8484bc56… (all of the seat's roots in one cut). By AI agents, Wed Nov 11 2026. No macro, syntax, notation, axiom, sorry.
-/
import Derived.Test.YtmjlbkejlbckoaaChecked
import GoSem.Claim
import GoSem.ClaimJoined
import GoSem.ClaimMapViews
import Derived.JoinedTies
import Derived.KernelRfl
namespace Go.Proofs.Ytmjlbkejlbckoaa
/- THE CELL 'sum', in the pinned program and in every row, IS THE sha256 OF THE DUMP (.gsa) THAT YtmjlbkejlbckoaaProg.lean LOADS. Nothing in Lean hashes anything: it is a label: what it is worth is what the hold of that sum in a sandbox is worth. -/
noncomputable def Try.pinned : Pinned := { name := "ytmjlbkejlbckoaa", sum := "3ddbc03c8484bc56885e1906d957bcde0a144ae23c788f39fcf0f24f6cc18a20", checked := Try.checked }
namespace Rows
def none {H : Type} : Left H := { results := [], args := [] }

/-- 'laws.FnExactUnmatchedOrders': WHATEVER THE INPUT: true; the input reads as it did. -/
def fnExactUnmatchedOrdersSpec : ChangeSpec := { name := "fnExactUnmatchedOrders", fn := fun _ => fun
  | [d] => { results := [.lit (.bool true)], args := [d] }
  | _ => none }
def fnExactUnmatchedOrdersRow : OpenClaim := { program := "ytmjlbkejlbckoaa", sum := "3ddbc03c8484bc56885e1906d957bcde0a144ae23c788f39fcf0f24f6cc18a20", func := "loop.example/urnsandballs/laws.FnExactUnmatchedOrders", spec := "fnExactUnmatchedOrders", recurses := true, apart := false }
def FnExactUnmatchedOrdersSaid : Prop := fnExactUnmatchedOrdersRow.holds Try.pinned (OpenSpec.ofChange fnExactUnmatchedOrdersSpec)

/-- ITS FALSE NEIGHBOUR: 'it returns false'. Refute it at one input. -/
def fnExactUnmatchedOrdersWrong : ChangeSpec := { name := "fnExactUnmatchedOrders", fn := fun _ => fun
  | [d] => { results := [.lit (.bool false)], args := [d] }
  | _ => none }
def FnExactUnmatchedOrdersWrongFalsely : Prop := fnExactUnmatchedOrdersRow.holds Try.pinned (OpenSpec.ofChange fnExactUnmatchedOrdersWrong)

/-- 'laws.FnExactHatsOk': WHATEVER THE INPUT: true; the input reads as it did. -/
def fnExactHatsOkSpec : ChangeSpec := { name := "fnExactHatsOk", fn := fun _ => fun
  | [d] => { results := [.lit (.bool true)], args := [d] }
  | _ => none }
def fnExactHatsOkRow : OpenClaim := { program := "ytmjlbkejlbckoaa", sum := "3ddbc03c8484bc56885e1906d957bcde0a144ae23c788f39fcf0f24f6cc18a20", func := "loop.example/urnsandballs/laws.FnExactHatsOk", spec := "fnExactHatsOk", apart := false }
def FnExactHatsOkSaid : Prop := fnExactHatsOkRow.holds Try.pinned (OpenSpec.ofChange fnExactHatsOkSpec)

/-- ITS FALSE NEIGHBOUR: 'it returns false'. Refute it at one input. -/
def fnExactHatsOkWrong : ChangeSpec := { name := "fnExactHatsOk", fn := fun _ => fun
  | [d] => { results := [.lit (.bool false)], args := [d] }
  | _ => none }
def FnExactHatsOkWrongFalsely : Prop := fnExactHatsOkRow.holds Try.pinned (OpenSpec.ofChange fnExactHatsOkWrong)

/-- 'laws.FnExactMatchOrders': WHATEVER THE INPUT: true; the input reads as it did. -/
def fnExactMatchOrdersSpec : ChangeSpec := { name := "fnExactMatchOrders", fn := fun _ => fun
  | [d1, d2] => { results := [.lit (.bool true)], args := [d1, d2] }
  | _ => none }
def fnExactMatchOrdersRow : OpenClaim := { program := "ytmjlbkejlbckoaa", sum := "3ddbc03c8484bc56885e1906d957bcde0a144ae23c788f39fcf0f24f6cc18a20", func := "loop.example/urnsandballs/laws.FnExactMatchOrders", spec := "fnExactMatchOrders", recurses := true, apart := false }
def FnExactMatchOrdersSaid : Prop := fnExactMatchOrdersRow.holds Try.pinned (OpenSpec.ofChange fnExactMatchOrdersSpec)

/-- ITS FALSE NEIGHBOUR: 'it returns false'. Refute it at one input. -/
def fnExactMatchOrdersWrong : ChangeSpec := { name := "fnExactMatchOrders", fn := fun _ => fun
  | [d1, d2] => { results := [.lit (.bool false)], args := [d1, d2] }
  | _ => none }
def FnExactMatchOrdersWrongFalsely : Prop := fnExactMatchOrdersRow.holds Try.pinned (OpenSpec.ofChange fnExactMatchOrdersWrong)

/-- 'laws.FnHatsOk': WHATEVER THE INPUT: true; the input reads as it did. -/
def fnHatsOkSpec : ChangeSpec := { name := "fnHatsOk", fn := fun _ => fun
  | [d] => { results := [.lit (.bool true)], args := [d] }
  | _ => none }
def fnHatsOkRow : OpenClaim := { program := "ytmjlbkejlbckoaa", sum := "3ddbc03c8484bc56885e1906d957bcde0a144ae23c788f39fcf0f24f6cc18a20", func := "loop.example/urnsandballs/laws.FnHatsOk", spec := "fnHatsOk", apart := false }
def FnHatsOkSaid : Prop := fnHatsOkRow.holds Try.pinned (OpenSpec.ofChange fnHatsOkSpec)

/-- ITS FALSE NEIGHBOUR: 'it returns false'. Refute it at one input. -/
def fnHatsOkWrong : ChangeSpec := { name := "fnHatsOk", fn := fun _ => fun
  | [d] => { results := [.lit (.bool false)], args := [d] }
  | _ => none }
def FnHatsOkWrongFalsely : Prop := fnHatsOkRow.holds Try.pinned (OpenSpec.ofChange fnHatsOkWrong)

/-- 'laws.FnExactOneRound': WHATEVER THE INPUT: true; the input reads as it did. -/
def fnExactOneRoundSpec : ChangeSpec := { name := "fnExactOneRound", fn := fun _ => fun
  | [d] => { results := [.lit (.bool true)], args := [d] }
  | _ => none }
def fnExactOneRoundRow : OpenClaim := { program := "ytmjlbkejlbckoaa", sum := "3ddbc03c8484bc56885e1906d957bcde0a144ae23c788f39fcf0f24f6cc18a20", func := "loop.example/urnsandballs/laws.FnExactOneRound", spec := "fnExactOneRound", apart := false }
def FnExactOneRoundSaid : Prop := fnExactOneRoundRow.holds Try.pinned (OpenSpec.ofChange fnExactOneRoundSpec)

/-- ITS FALSE NEIGHBOUR: 'it returns false'. Refute it at one input. -/
def fnExactOneRoundWrong : ChangeSpec := { name := "fnExactOneRound", fn := fun _ => fun
  | [d] => { results := [.lit (.bool false)], args := [d] }
  | _ => none }
def FnExactOneRoundWrongFalsely : Prop := fnExactOneRoundRow.holds Try.pinned (OpenSpec.ofChange fnExactOneRoundWrong)

/-- 'laws.FnExactRunsOf': WHATEVER THE INPUT: true; the input reads as it did. -/
def fnExactRunsOfSpec : ChangeSpec := { name := "fnExactRunsOf", fn := fun _ => fun
  | [d1, d2] => { results := [.lit (.bool true)], args := [d1, d2] }
  | _ => none }
def fnExactRunsOfRow : OpenClaim := { program := "ytmjlbkejlbckoaa", sum := "3ddbc03c8484bc56885e1906d957bcde0a144ae23c788f39fcf0f24f6cc18a20", func := "loop.example/urnsandballs/laws.FnExactRunsOf", spec := "fnExactRunsOf", apart := false }
def FnExactRunsOfSaid : Prop := fnExactRunsOfRow.holds Try.pinned (OpenSpec.ofChange fnExactRunsOfSpec)

/-- ITS FALSE NEIGHBOUR: 'it returns false'. Refute it at one input. -/
def fnExactRunsOfWrong : ChangeSpec := { name := "fnExactRunsOf", fn := fun _ => fun
  | [d1, d2] => { results := [.lit (.bool false)], args := [d1, d2] }
  | _ => none }
def FnExactRunsOfWrongFalsely : Prop := fnExactRunsOfRow.holds Try.pinned (OpenSpec.ofChange fnExactRunsOfWrong)

/-- 'laws.FnExactLongestRun': WHATEVER THE INPUT: true; the input reads as it did. -/
def fnExactLongestRunSpec : ChangeSpec := { name := "fnExactLongestRun", fn := fun _ => fun
  | [d1, d2] => { results := [.lit (.bool true)], args := [d1, d2] }
  | _ => none }
def fnExactLongestRunRow : OpenClaim := { program := "ytmjlbkejlbckoaa", sum := "3ddbc03c8484bc56885e1906d957bcde0a144ae23c788f39fcf0f24f6cc18a20", func := "loop.example/urnsandballs/laws.FnExactLongestRun", spec := "fnExactLongestRun", apart := false }
def FnExactLongestRunSaid : Prop := fnExactLongestRunRow.holds Try.pinned (OpenSpec.ofChange fnExactLongestRunSpec)

/-- ITS FALSE NEIGHBOUR: 'it returns false'. Refute it at one input. -/
def fnExactLongestRunWrong : ChangeSpec := { name := "fnExactLongestRun", fn := fun _ => fun
  | [d1, d2] => { results := [.lit (.bool false)], args := [d1, d2] }
  | _ => none }
def FnExactLongestRunWrongFalsely : Prop := fnExactLongestRunRow.holds Try.pinned (OpenSpec.ofChange fnExactLongestRunWrong)

/-- 'laws.FnRunsOf': WHATEVER THE INPUT: true; the input reads as it did. -/
def fnRunsOfSpec : ChangeSpec := { name := "fnRunsOf", fn := fun _ => fun
  | [d] => { results := [.lit (.bool true)], args := [d] }
  | _ => none }
def fnRunsOfRow : OpenClaim := { program := "ytmjlbkejlbckoaa", sum := "3ddbc03c8484bc56885e1906d957bcde0a144ae23c788f39fcf0f24f6cc18a20", func := "loop.example/urnsandballs/laws.FnRunsOf", spec := "fnRunsOf", apart := false }
def FnRunsOfSaid : Prop := fnRunsOfRow.holds Try.pinned (OpenSpec.ofChange fnRunsOfSpec)

/-- ITS FALSE NEIGHBOUR: 'it returns false'. Refute it at one input. -/
def fnRunsOfWrong : ChangeSpec := { name := "fnRunsOf", fn := fun _ => fun
  | [d] => { results := [.lit (.bool false)], args := [d] }
  | _ => none }
def FnRunsOfWrongFalsely : Prop := fnRunsOfRow.holds Try.pinned (OpenSpec.ofChange fnRunsOfWrong)

/-- 'laws.FnLongestRun': WHATEVER THE INPUT: true; the input reads as it did. -/
def fnLongestRunSpec : ChangeSpec := { name := "fnLongestRun", fn := fun _ => fun
  | [d] => { results := [.lit (.bool true)], args := [d] }
  | _ => none }
def fnLongestRunRow : OpenClaim := { program := "ytmjlbkejlbckoaa", sum := "3ddbc03c8484bc56885e1906d957bcde0a144ae23c788f39fcf0f24f6cc18a20", func := "loop.example/urnsandballs/laws.FnLongestRun", spec := "fnLongestRun", apart := false }
def FnLongestRunSaid : Prop := fnLongestRunRow.holds Try.pinned (OpenSpec.ofChange fnLongestRunSpec)

/-- ITS FALSE NEIGHBOUR: 'it returns false'. Refute it at one input. -/
def fnLongestRunWrong : ChangeSpec := { name := "fnLongestRun", fn := fun _ => fun
  | [d] => { results := [.lit (.bool false)], args := [d] }
  | _ => none }
def FnLongestRunWrongFalsely : Prop := fnLongestRunRow.holds Try.pinned (OpenSpec.ofChange fnLongestRunWrong)

/- THE SECOND FORM. 'bulk': how many values and letters a reading holds, each counted each time it is reached (what is shared counts as often as it is met; a slice's spare places count too). A statement '..UptoSaid' is the law's where the arguments, and the package variables that the reading takes, are together of bulk at most 1048576: NARROWER than '..Said'. Prove '..Said' where nothing that the law and all that it calls make is longer than what came in: it says more and counts as full. Else prove '..UptoSaid'. A law counts once. -/
mutual
def uptoBulk {H : Type} : DataW H → Nat
  | .lit (.string bytes) => bytes.length + 1
  | .lit _ => 1
  | .nil => 1
  | .ptr d => uptoBulk d + 1
  | .slice elems spare => uptoBulkAll elems + uptoBulkAll spare + 1
  | .agg parts => uptoBulkAll parts + 1
  | .iface _ d => uptoBulk d + 1
  | .map entries => uptoBulkEntries entries + 1
  | .held _ => 1
def uptoBulkAll {H : Type} : List (DataW H) → Nat
  | [] => 0
  | d :: r => uptoBulk d + uptoBulkAll r
def uptoBulkEntries {H : Type} : List (Lit × DataW H) → Nat
  | [] => 0
  | x :: r => uptoBulkEntry x + uptoBulkEntries r
def uptoBulkEntry {H : Type} : Lit × DataW H → Nat
  | (.string bytes, d) => bytes.length + uptoBulk d + 1
  | (_, d) => uptoBulk d + 1
 end
def uptoSmall : (H : Type) → List (DataW H) → Bool := fun _ ds => decide (uptoBulkAll ds ≤ 1048576)
def OpenSpec.upto (s : _root_.Go.ChangeSpec) : _root_.Go.OpenSpec := { _root_.Go.OpenSpec.ofChange s with cond := some uptoSmall }

/-- 'laws.FnExactUnmatchedOrders', WHERE WHAT IT READS IS OF BULK AT MOST 1048576: true; the input reads as it did. -/
def fnExactUnmatchedOrdersUptoRow : OpenClaim := { program := "ytmjlbkejlbckoaa", sum := "3ddbc03c8484bc56885e1906d957bcde0a144ae23c788f39fcf0f24f6cc18a20", func := "loop.example/urnsandballs/laws.FnExactUnmatchedOrders", spec := "fnExactUnmatchedOrders", recurses := true, apart := false, narrowed := true }
def FnExactUnmatchedOrdersUptoSaid : Prop := fnExactUnmatchedOrdersUptoRow.holds Try.pinned (OpenSpec.upto fnExactUnmatchedOrdersSpec)

/-- 'laws.FnExactHatsOk', WHERE WHAT IT READS IS OF BULK AT MOST 1048576: true; the input reads as it did. -/
def fnExactHatsOkUptoRow : OpenClaim := { program := "ytmjlbkejlbckoaa", sum := "3ddbc03c8484bc56885e1906d957bcde0a144ae23c788f39fcf0f24f6cc18a20", func := "loop.example/urnsandballs/laws.FnExactHatsOk", spec := "fnExactHatsOk", apart := false, narrowed := true }
def FnExactHatsOkUptoSaid : Prop := fnExactHatsOkUptoRow.holds Try.pinned (OpenSpec.upto fnExactHatsOkSpec)

/-- 'laws.FnExactMatchOrders', WHERE WHAT IT READS IS OF BULK AT MOST 1048576: true; the input reads as it did. -/
def fnExactMatchOrdersUptoRow : OpenClaim := { program := "ytmjlbkejlbckoaa", sum := "3ddbc03c8484bc56885e1906d957bcde0a144ae23c788f39fcf0f24f6cc18a20", func := "loop.example/urnsandballs/laws.FnExactMatchOrders", spec := "fnExactMatchOrders", recurses := true, apart := false, narrowed := true }
def FnExactMatchOrdersUptoSaid : Prop := fnExactMatchOrdersUptoRow.holds Try.pinned (OpenSpec.upto fnExactMatchOrdersSpec)

/-- 'laws.FnHatsOk', WHERE WHAT IT READS IS OF BULK AT MOST 1048576: true; the input reads as it did. -/
def fnHatsOkUptoRow : OpenClaim := { program := "ytmjlbkejlbckoaa", sum := "3ddbc03c8484bc56885e1906d957bcde0a144ae23c788f39fcf0f24f6cc18a20", func := "loop.example/urnsandballs/laws.FnHatsOk", spec := "fnHatsOk", apart := false, narrowed := true }
def FnHatsOkUptoSaid : Prop := fnHatsOkUptoRow.holds Try.pinned (OpenSpec.upto fnHatsOkSpec)

/-- 'laws.FnExactOneRound', WHERE WHAT IT READS IS OF BULK AT MOST 1048576: true; the input reads as it did. -/
def fnExactOneRoundUptoRow : OpenClaim := { program := "ytmjlbkejlbckoaa", sum := "3ddbc03c8484bc56885e1906d957bcde0a144ae23c788f39fcf0f24f6cc18a20", func := "loop.example/urnsandballs/laws.FnExactOneRound", spec := "fnExactOneRound", apart := false, narrowed := true }
def FnExactOneRoundUptoSaid : Prop := fnExactOneRoundUptoRow.holds Try.pinned (OpenSpec.upto fnExactOneRoundSpec)

/-- 'laws.FnExactRunsOf', WHERE WHAT IT READS IS OF BULK AT MOST 1048576: true; the input reads as it did. -/
def fnExactRunsOfUptoRow : OpenClaim := { program := "ytmjlbkejlbckoaa", sum := "3ddbc03c8484bc56885e1906d957bcde0a144ae23c788f39fcf0f24f6cc18a20", func := "loop.example/urnsandballs/laws.FnExactRunsOf", spec := "fnExactRunsOf", apart := false, narrowed := true }
def FnExactRunsOfUptoSaid : Prop := fnExactRunsOfUptoRow.holds Try.pinned (OpenSpec.upto fnExactRunsOfSpec)

/-- 'laws.FnExactLongestRun', WHERE WHAT IT READS IS OF BULK AT MOST 1048576: true; the input reads as it did. -/
def fnExactLongestRunUptoRow : OpenClaim := { program := "ytmjlbkejlbckoaa", sum := "3ddbc03c8484bc56885e1906d957bcde0a144ae23c788f39fcf0f24f6cc18a20", func := "loop.example/urnsandballs/laws.FnExactLongestRun", spec := "fnExactLongestRun", apart := false, narrowed := true }
def FnExactLongestRunUptoSaid : Prop := fnExactLongestRunUptoRow.holds Try.pinned (OpenSpec.upto fnExactLongestRunSpec)

/-- 'laws.FnRunsOf', WHERE WHAT IT READS IS OF BULK AT MOST 1048576: true; the input reads as it did. -/
def fnRunsOfUptoRow : OpenClaim := { program := "ytmjlbkejlbckoaa", sum := "3ddbc03c8484bc56885e1906d957bcde0a144ae23c788f39fcf0f24f6cc18a20", func := "loop.example/urnsandballs/laws.FnRunsOf", spec := "fnRunsOf", apart := false, narrowed := true }
def FnRunsOfUptoSaid : Prop := fnRunsOfUptoRow.holds Try.pinned (OpenSpec.upto fnRunsOfSpec)

/-- 'laws.FnLongestRun', WHERE WHAT IT READS IS OF BULK AT MOST 1048576: true; the input reads as it did. -/
def fnLongestRunUptoRow : OpenClaim := { program := "ytmjlbkejlbckoaa", sum := "3ddbc03c8484bc56885e1906d957bcde0a144ae23c788f39fcf0f24f6cc18a20", func := "loop.example/urnsandballs/laws.FnLongestRun", spec := "fnLongestRun", apart := false, narrowed := true }
def FnLongestRunUptoSaid : Prop := fnLongestRunUptoRow.holds Try.pinned (OpenSpec.upto fnLongestRunSpec)

end Rows
end Go.Proofs.Ytmjlbkejlbckoaa
