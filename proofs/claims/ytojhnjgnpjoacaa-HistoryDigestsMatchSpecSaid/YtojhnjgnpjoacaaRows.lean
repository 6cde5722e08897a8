/-
  No cell of these rows narrows 'for every input' (looked for: loops, veiled, ifaces, maps, wideKeys, modest, calm, conditions, laid).
  DERIVED. THE GIVEN ROWS OF THIS SEAT. 10 by the template 'for every input the law returns true; each argument reads behind the call as it read before'; 0 by the template 'total and deterministic' (their statements: YtojhnjgnpjoacaaTotals.lean).
  GIVEN WITH THE SEED: the statements are not yours to turn. If you find one false, say at which input.
  Laid BY PROGRAM, IN A SANDBOX (cutbox-rows.mjs): the forced cells as the released guide's own fill.sh prints them over the translation 96bb7d68b32fd89b… (all of the seat's roots in one cut). By AI agents, Wed Nov 11 2026. No macro, syntax, notation, axiom, sorry.
-/
import Derived.Test.YtojhnjgnpjoacaaChecked
import GoSem.Claim
import GoSem.ClaimJoined
import GoSem.ClaimMapViews
import Derived.JoinedTies
import Derived.KernelRfl
namespace Go.Proofs.Ytojhnjgnpjoacaa
/- THE CELL 'sum', in the pinned program and in every row, IS THE sha256 OF THE DUMP (.gsa) THAT YtojhnjgnpjoacaaProg.lean LOADS. Nothing in Lean hashes anything: it is a label: what it is worth is what the hold of that sum in a sandbox is worth. -/
noncomputable def Try.pinned : Pinned := { name := "ytojhnjgnpjoacaa", sum := "96bb7d68b32fd89b99672ed7f2c11d3e1e829eabc074cfa9e29e5ea22d9d0992", checked := Try.checked }
namespace Rows
def none {H : Type} : Left H := { results := [], args := [] }

/-- 'changeforgelaw3.MergebaseMatchesSpec': WHATEVER THE INPUT: true; the input reads as it did. -/
def mergebaseMatchesSpecSpec : ChangeSpec := { name := "mergebaseMatchesSpec", fn := fun _ => fun
  | [d1, d2, d3, d4] => { results := [.lit (.bool true)], args := [d1, d2, d3, d4] }
  | _ => none }
def mergebaseMatchesSpecRow : OpenClaim := { program := "ytojhnjgnpjoacaa", sum := "96bb7d68b32fd89b99672ed7f2c11d3e1e829eabc074cfa9e29e5ea22d9d0992", func := "changeforge/changeforgelaw3.MergebaseMatchesSpec", spec := "mergebaseMatchesSpec", apart := false }
def MergebaseMatchesSpecSaid : Prop := mergebaseMatchesSpecRow.holds Try.pinned (OpenSpec.ofChange mergebaseMatchesSpecSpec)

/-- ITS FALSE NEIGHBOUR: 'it returns false'. Refute it at one input. -/
def mergebaseMatchesSpecWrong : ChangeSpec := { name := "mergebaseMatchesSpec", fn := fun _ => fun
  | [d1, d2, d3, d4] => { results := [.lit (.bool false)], args := [d1, d2, d3, d4] }
  | _ => none }
def MergebaseMatchesSpecWrongFalsely : Prop := mergebaseMatchesSpecRow.holds Try.pinned (OpenSpec.ofChange mergebaseMatchesSpecWrong)

/-- 'changeforgelaw3.MergebaseSymmetric': WHATEVER THE INPUT: true; the input reads as it did. -/
def mergebaseSymmetricSpec : ChangeSpec := { name := "mergebaseSymmetric", fn := fun _ => fun
  | [d1, d2, d3, d4] => { results := [.lit (.bool true)], args := [d1, d2, d3, d4] }
  | _ => none }
def mergebaseSymmetricRow : OpenClaim := { program := "ytojhnjgnpjoacaa", sum := "96bb7d68b32fd89b99672ed7f2c11d3e1e829eabc074cfa9e29e5ea22d9d0992", func := "changeforge/changeforgelaw3.MergebaseSymmetric", spec := "mergebaseSymmetric", apart := false }
def MergebaseSymmetricSaid : Prop := mergebaseSymmetricRow.holds Try.pinned (OpenSpec.ofChange mergebaseSymmetricSpec)

/-- ITS FALSE NEIGHBOUR: 'it returns false'. Refute it at one input. -/
def mergebaseSymmetricWrong : ChangeSpec := { name := "mergebaseSymmetric", fn := fun _ => fun
  | [d1, d2, d3, d4] => { results := [.lit (.bool false)], args := [d1, d2, d3, d4] }
  | _ => none }
def MergebaseSymmetricWrongFalsely : Prop := mergebaseSymmetricRow.holds Try.pinned (OpenSpec.ofChange mergebaseSymmetricWrong)

/-- 'changeforgelaw3.MergebaseOfAncestor': WHATEVER THE INPUT: true; the input reads as it did. -/
def mergebaseOfAncestorSpec : ChangeSpec := { name := "mergebaseOfAncestor", fn := fun _ => fun
  | [d1, d2, d3] => { results := [.lit (.bool true)], args := [d1, d2, d3] }
  | _ => none }
def mergebaseOfAncestorRow : OpenClaim := { program := "ytojhnjgnpjoacaa", sum := "96bb7d68b32fd89b99672ed7f2c11d3e1e829eabc074cfa9e29e5ea22d9d0992", func := "changeforge/changeforgelaw3.MergebaseOfAncestor", spec := "mergebaseOfAncestor", apart := false }
def MergebaseOfAncestorSaid : Prop := mergebaseOfAncestorRow.holds Try.pinned (OpenSpec.ofChange mergebaseOfAncestorSpec)

/-- ITS FALSE NEIGHBOUR: 'it returns false'. Refute it at one input. -/
def mergebaseOfAncestorWrong : ChangeSpec := { name := "mergebaseOfAncestor", fn := fun _ => fun
  | [d1, d2, d3] => { results := [.lit (.bool false)], args := [d1, d2, d3] }
  | _ => none }
def MergebaseOfAncestorWrongFalsely : Prop := mergebaseOfAncestorRow.holds Try.pinned (OpenSpec.ofChange mergebaseOfAncestorWrong)

/-- 'changeforgelaw3.MergebaseCoversCommon': WHATEVER THE INPUT: true; the input reads as it did. -/
def mergebaseCoversCommonSpec : ChangeSpec := { name := "mergebaseCoversCommon", fn := fun _ => fun
  | [d1, d2, d3, d4] => { results := [.lit (.bool true)], args := [d1, d2, d3, d4] }
  | _ => none }
def mergebaseCoversCommonRow : OpenClaim := { program := "ytojhnjgnpjoacaa", sum := "96bb7d68b32fd89b99672ed7f2c11d3e1e829eabc074cfa9e29e5ea22d9d0992", func := "changeforge/changeforgelaw3.MergebaseCoversCommon", spec := "mergebaseCoversCommon", apart := false }
def MergebaseCoversCommonSaid : Prop := mergebaseCoversCommonRow.holds Try.pinned (OpenSpec.ofChange mergebaseCoversCommonSpec)

/-- ITS FALSE NEIGHBOUR: 'it returns false'. Refute it at one input. -/
def mergebaseCoversCommonWrong : ChangeSpec := { name := "mergebaseCoversCommon", fn := fun _ => fun
  | [d1, d2, d3, d4] => { results := [.lit (.bool false)], args := [d1, d2, d3, d4] }
  | _ => none }
def MergebaseCoversCommonWrongFalsely : Prop := mergebaseCoversCommonRow.holds Try.pinned (OpenSpec.ofChange mergebaseCoversCommonWrong)

/-- 'changeforgelaw3.HistoryAncestorsMatchesSpec': WHATEVER THE INPUT: true; the input reads as it did. -/
def historyAncestorsMatchesSpecSpec : ChangeSpec := { name := "historyAncestorsMatchesSpec", fn := fun _ => fun
  | [d1, d2] => { results := [.lit (.bool true)], args := [d1, d2] }
  | _ => none }
def historyAncestorsMatchesSpecRow : OpenClaim := { program := "ytojhnjgnpjoacaa", sum := "96bb7d68b32fd89b99672ed7f2c11d3e1e829eabc074cfa9e29e5ea22d9d0992", func := "changeforge/changeforgelaw3.HistoryAncestorsMatchesSpec", spec := "historyAncestorsMatchesSpec", unfollowed := true, recurses := true, apart := false }
def HistoryAncestorsMatchesSpecSaid : Prop := historyAncestorsMatchesSpecRow.holds Try.pinned (OpenSpec.ofChange historyAncestorsMatchesSpecSpec)

/-- ITS FALSE NEIGHBOUR: 'it returns false'. Refute it at one input. -/
def historyAncestorsMatchesSpecWrong : ChangeSpec := { name := "historyAncestorsMatchesSpec", fn := fun _ => fun
  | [d1, d2] => { results := [.lit (.bool false)], args := [d1, d2] }
  | _ => none }
def HistoryAncestorsMatchesSpecWrongFalsely : Prop := historyAncestorsMatchesSpecRow.holds Try.pinned (OpenSpec.ofChange historyAncestorsMatchesSpecWrong)

/-- 'changeforgelaw3.HistoryAncestorsTransitive': WHATEVER THE INPUT: true; the input reads as it did. -/
def historyAncestorsTransitiveSpec : ChangeSpec := { name := "historyAncestorsTransitive", fn := fun _ => fun
  | [d1, d2, d3] => { results := [.lit (.bool true)], args := [d1, d2, d3] }
  | _ => none }
def historyAncestorsTransitiveRow : OpenClaim := { program := "ytojhnjgnpjoacaa", sum := "96bb7d68b32fd89b99672ed7f2c11d3e1e829eabc074cfa9e29e5ea22d9d0992", func := "changeforge/changeforgelaw3.HistoryAncestorsTransitive", spec := "historyAncestorsTransitive", unfollowed := true, recurses := true, apart := false }
def HistoryAncestorsTransitiveSaid : Prop := historyAncestorsTransitiveRow.holds Try.pinned (OpenSpec.ofChange historyAncestorsTransitiveSpec)

/-- ITS FALSE NEIGHBOUR: 'it returns false'. Refute it at one input. -/
def historyAncestorsTransitiveWrong : ChangeSpec := { name := "historyAncestorsTransitive", fn := fun _ => fun
  | [d1, d2, d3] => { results := [.lit (.bool false)], args := [d1, d2, d3] }
  | _ => none }
def HistoryAncestorsTransitiveWrongFalsely : Prop := historyAncestorsTransitiveRow.holds Try.pinned (OpenSpec.ofChange historyAncestorsTransitiveWrong)

/-- 'changeforgelaw3.HistoryOrderTopological': WHATEVER THE INPUT: true; the input reads as it did. -/
def historyOrderTopologicalSpec : ChangeSpec := { name := "historyOrderTopological", fn := fun _ => fun
  | [d] => { results := [.lit (.bool true)], args := [d] }
  | _ => none }
def historyOrderTopologicalRow : OpenClaim := { program := "ytojhnjgnpjoacaa", sum := "96bb7d68b32fd89b99672ed7f2c11d3e1e829eabc074cfa9e29e5ea22d9d0992", func := "changeforge/changeforgelaw3.HistoryOrderTopological", spec := "historyOrderTopological", unfollowed := true, recurses := true, apart := false }
def HistoryOrderTopologicalSaid : Prop := historyOrderTopologicalRow.holds Try.pinned (OpenSpec.ofChange historyOrderTopologicalSpec)

/-- ITS FALSE NEIGHBOUR: 'it returns false'. Refute it at one input. -/
def historyOrderTopologicalWrong : ChangeSpec := { name := "historyOrderTopological", fn := fun _ => fun
  | [d] => { results := [.lit (.bool false)], args := [d] }
  | _ => none }
def HistoryOrderTopologicalWrongFalsely : Prop := historyOrderTopologicalRow.holds Try.pinned (OpenSpec.ofChange historyOrderTopologicalWrong)

/-- 'changeforgelaw3.HistoryHeadsReachAll': WHATEVER THE INPUT: true; the input reads as it did. -/
def historyHeadsReachAllSpec : ChangeSpec := { name := "historyHeadsReachAll", fn := fun _ => fun
  | [d] => { results := [.lit (.bool true)], args := [d] }
  | _ => none }
def historyHeadsReachAllRow : OpenClaim := { program := "ytojhnjgnpjoacaa", sum := "96bb7d68b32fd89b99672ed7f2c11d3e1e829eabc074cfa9e29e5ea22d9d0992", func := "changeforge/changeforgelaw3.HistoryHeadsReachAll", spec := "historyHeadsReachAll", unfollowed := true, recurses := true, apart := false }
def HistoryHeadsReachAllSaid : Prop := historyHeadsReachAllRow.holds Try.pinned (OpenSpec.ofChange historyHeadsReachAllSpec)

/-- ITS FALSE NEIGHBOUR: 'it returns false'. Refute it at one input. -/
def historyHeadsReachAllWrong : ChangeSpec := { name := "historyHeadsReachAll", fn := fun _ => fun
  | [d] => { results := [.lit (.bool false)], args := [d] }
  | _ => none }
def HistoryHeadsReachAllWrongFalsely : Prop := historyHeadsReachAllRow.holds Try.pinned (OpenSpec.ofChange historyHeadsReachAllWrong)

/-- 'changeforgelaw3.HistoryOrderMatchesSpec': WHATEVER THE INPUT: true; the input reads as it did. -/
def historyOrderMatchesSpecSpec : ChangeSpec := { name := "historyOrderMatchesSpec", fn := fun _ => fun
  | [d] => { results := [.lit (.bool true)], args := [d] }
  | _ => none }
def historyOrderMatchesSpecRow : OpenClaim := { program := "ytojhnjgnpjoacaa", sum := "96bb7d68b32fd89b99672ed7f2c11d3e1e829eabc074cfa9e29e5ea22d9d0992", func := "changeforge/changeforgelaw3.HistoryOrderMatchesSpec", spec := "historyOrderMatchesSpec", unfollowed := true, recurses := true, apart := false }
def HistoryOrderMatchesSpecSaid : Prop := historyOrderMatchesSpecRow.holds Try.pinned (OpenSpec.ofChange historyOrderMatchesSpecSpec)

/-- ITS FALSE NEIGHBOUR: 'it returns false'. Refute it at one input. -/
def historyOrderMatchesSpecWrong : ChangeSpec := { name := "historyOrderMatchesSpec", fn := fun _ => fun
  | [d] => { results := [.lit (.bool false)], args := [d] }
  | _ => none }
def HistoryOrderMatchesSpecWrongFalsely : Prop := historyOrderMatchesSpecRow.holds Try.pinned (OpenSpec.ofChange historyOrderMatchesSpecWrong)

/-- 'changeforgelaw3.HistoryDigestsMatchSpec': WHATEVER THE INPUT: true; the input reads as it did. -/
def historyDigestsMatchSpecSpec : ChangeSpec := { name := "historyDigestsMatchSpec", fn := fun _ => fun
  | [d] => { results := [.lit (.bool true)], args := [d] }
  | _ => none }
def historyDigestsMatchSpecRow : OpenClaim := { program := "ytojhnjgnpjoacaa", sum := "96bb7d68b32fd89b99672ed7f2c11d3e1e829eabc074cfa9e29e5ea22d9d0992", func := "changeforge/changeforgelaw3.HistoryDigestsMatchSpec", spec := "historyDigestsMatchSpec", unfollowed := true, recurses := true, named := ["math/bits.divideError", "math/bits.overflowError"], apart := false }
def HistoryDigestsMatchSpecSaid : Prop := historyDigestsMatchSpecRow.holds Try.pinned (OpenSpec.ofChange historyDigestsMatchSpecSpec)

/-- ITS FALSE NEIGHBOUR: 'it returns false'. Refute it at one input. -/
def historyDigestsMatchSpecWrong : ChangeSpec := { name := "historyDigestsMatchSpec", fn := fun _ => fun
  | [d] => { results := [.lit (.bool false)], args := [d] }
  | _ => none }
def HistoryDigestsMatchSpecWrongFalsely : Prop := historyDigestsMatchSpecRow.holds Try.pinned (OpenSpec.ofChange historyDigestsMatchSpecWrong)

/- THE SECOND FORM. 'bulk': how many values and letters a reading holds, each counted each time it is reached (what is shared counts as often as it is met; a slice's spare places count too). A statement '..UptoSaid' is the law's where the arguments, and the package variables that the reading takes, are together of bulk at most 1048576: NARROWER than '..Said'. Prove '..Said' where nothing that the law and all that it calls make is longer than what came in: it says more and counts as full. Else prove '..UptoSaid'. A law counts once. -/
mutual
def uptoBulk {H : Type} : DataW H → Nat
  | .lit (.string bytes) => bytes.length + 1
  | .lit _ => 1
  | .nil => 1
  | .ptr d => uptoBulk d + 1
  | .slice elems spare => uptoBulkAll elems + uptoBulkAll spare + 1
  | .agg parts => uptoBulkAll parts + 1
  | .iface _ d => uptoBulk d + 1
  | .map entries => uptoBulkEntries entries + 1
  | .held _ => 1
def uptoBulkAll {H : Type} : List (DataW H) → Nat
  | [] => 0
  | d :: r => uptoBulk d + uptoBulkAll r
def uptoBulkEntries {H : Type} : List (Lit × DataW H) → Nat
  | [] => 0
  | x :: r => uptoBulkEntry x + uptoBulkEntries r
def uptoBulkEntry {H : Type} : Lit × DataW H → Nat
  | (.string bytes, d) => bytes.length + uptoBulk d + 1
  | (_, d) => uptoBulk d + 1
 end
def uptoSmall : (H : Type) → List (DataW H) → Bool := fun _ ds => decide (uptoBulkAll ds ≤ 1048576)
def OpenSpec.upto (s : _root_.Go.ChangeSpec) : _root_.Go.OpenSpec := { _root_.Go.OpenSpec.ofChange s with cond := some uptoSmall }

/-- 'changeforgelaw3.MergebaseMatchesSpec', WHERE WHAT IT READS IS OF BULK AT MOST 1048576: true; the input reads as it did. -/
def mergebaseMatchesSpecUptoRow : OpenClaim := { program := "ytojhnjgnpjoacaa", sum := "96bb7d68b32fd89b99672ed7f2c11d3e1e829eabc074cfa9e29e5ea22d9d0992", func := "changeforge/changeforgelaw3.MergebaseMatchesSpec", spec := "mergebaseMatchesSpec", apart := false, narrowed := true }
def MergebaseMatchesSpecUptoSaid : Prop := mergebaseMatchesSpecUptoRow.holds Try.pinned (OpenSpec.upto mergebaseMatchesSpecSpec)

/-- 'changeforgelaw3.MergebaseSymmetric', WHERE WHAT IT READS IS OF BULK AT MOST 1048576: true; the input reads as it did. -/
def mergebaseSymmetricUptoRow : OpenClaim := { program := "ytojhnjgnpjoacaa", sum := "96bb7d68b32fd89b99672ed7f2c11d3e1e829eabc074cfa9e29e5ea22d9d0992", func := "changeforge/changeforgelaw3.MergebaseSymmetric", spec := "mergebaseSymmetric", apart := false, narrowed := true }
def MergebaseSymmetricUptoSaid : Prop := mergebaseSymmetricUptoRow.holds Try.pinned (OpenSpec.upto mergebaseSymmetricSpec)

/-- 'changeforgelaw3.MergebaseOfAncestor', WHERE WHAT IT READS IS OF BULK AT MOST 1048576: true; the input reads as it did. -/
def mergebaseOfAncestorUptoRow : OpenClaim := { program := "ytojhnjgnpjoacaa", sum := "96bb7d68b32fd89b99672ed7f2c11d3e1e829eabc074cfa9e29e5ea22d9d0992", func := "changeforge/changeforgelaw3.MergebaseOfAncestor", spec := "mergebaseOfAncestor", apart := false, narrowed := true }
def MergebaseOfAncestorUptoSaid : Prop := mergebaseOfAncestorUptoRow.holds Try.pinned (OpenSpec.upto mergebaseOfAncestorSpec)

/-- 'changeforgelaw3.MergebaseCoversCommon', WHERE WHAT IT READS IS OF BULK AT MOST 1048576: true; the input reads as it did. -/
def mergebaseCoversCommonUptoRow : OpenClaim := { program := "ytojhnjgnpjoacaa", sum := "96bb7d68b32fd89b99672ed7f2c11d3e1e829eabc074cfa9e29e5ea22d9d0992", func := "changeforge/changeforgelaw3.MergebaseCoversCommon", spec := "mergebaseCoversCommon", apart := false, narrowed := true }
def MergebaseCoversCommonUptoSaid : Prop := mergebaseCoversCommonUptoRow.holds Try.pinned (OpenSpec.upto mergebaseCoversCommonSpec)

/-- 'changeforgelaw3.HistoryAncestorsMatchesSpec', WHERE WHAT IT READS IS OF BULK AT MOST 1048576: true; the input reads as it did. -/
def historyAncestorsMatchesSpecUptoRow : OpenClaim := { program := "ytojhnjgnpjoacaa", sum := "96bb7d68b32fd89b99672ed7f2c11d3e1e829eabc074cfa9e29e5ea22d9d0992", func := "changeforge/changeforgelaw3.HistoryAncestorsMatchesSpec", spec := "historyAncestorsMatchesSpec", unfollowed := true, recurses := true, apart := false, narrowed := true }
def HistoryAncestorsMatchesSpecUptoSaid : Prop := historyAncestorsMatchesSpecUptoRow.holds Try.pinned (OpenSpec.upto historyAncestorsMatchesSpecSpec)

/-- 'changeforgelaw3.HistoryAncestorsTransitive', WHERE WHAT IT READS IS OF BULK AT MOST 1048576: true; the input reads as it did. -/
def historyAncestorsTransitiveUptoRow : OpenClaim := { program := "ytojhnjgnpjoacaa", sum := "96bb7d68b32fd89b99672ed7f2c11d3e1e829eabc074cfa9e29e5ea22d9d0992", func := "changeforge/changeforgelaw3.HistoryAncestorsTransitive", spec := "historyAncestorsTransitive", unfollowed := true, recurses := true, apart := false, narrowed := true }
def HistoryAncestorsTransitiveUptoSaid : Prop := historyAncestorsTransitiveUptoRow.holds Try.pinned (OpenSpec.upto historyAncestorsTransitiveSpec)

/-- 'changeforgelaw3.HistoryOrderTopological', WHERE WHAT IT READS IS OF BULK AT MOST 1048576: true; the input reads as it did. -/
def historyOrderTopologicalUptoRow : OpenClaim := { program := "ytojhnjgnpjoacaa", sum := "96bb7d68b32fd89b99672ed7f2c11d3e1e829eabc074cfa9e29e5ea22d9d0992", func := "changeforge/changeforgelaw3.HistoryOrderTopological", spec := "historyOrderTopological", unfollowed := true, recurses := true, apart := false, narrowed := true }
def HistoryOrderTopologicalUptoSaid : Prop := historyOrderTopologicalUptoRow.holds Try.pinned (OpenSpec.upto historyOrderTopologicalSpec)

/-- 'changeforgelaw3.HistoryHeadsReachAll', WHERE WHAT IT READS IS OF BULK AT MOST 1048576: true; the input reads as it did. -/
def historyHeadsReachAllUptoRow : OpenClaim := { program := "ytojhnjgnpjoacaa", sum := "96bb7d68b32fd89b99672ed7f2c11d3e1e829eabc074cfa9e29e5ea22d9d0992", func := "changeforge/changeforgelaw3.HistoryHeadsReachAll", spec := "historyHeadsReachAll", unfollowed := true, recurses := true, apart := false, narrowed := true }
def HistoryHeadsReachAllUptoSaid : Prop := historyHeadsReachAllUptoRow.holds Try.pinned (OpenSpec.upto historyHeadsReachAllSpec)

/-- 'changeforgelaw3.HistoryOrderMatchesSpec', WHERE WHAT IT READS IS OF BULK AT MOST 1048576: true; the input reads as it did. -/
def historyOrderMatchesSpecUptoRow : OpenClaim := { program := "ytojhnjgnpjoacaa", sum := "96bb7d68b32fd89b99672ed7f2c11d3e1e829eabc074cfa9e29e5ea22d9d0992", func := "changeforge/changeforgelaw3.HistoryOrderMatchesSpec", spec := "historyOrderMatchesSpec", unfollowed := true, recurses := true, apart := false, narrowed := true }
def HistoryOrderMatchesSpecUptoSaid : Prop := historyOrderMatchesSpecUptoRow.holds Try.pinned (OpenSpec.upto historyOrderMatchesSpecSpec)

/-- 'changeforgelaw3.HistoryDigestsMatchSpec', WHERE WHAT IT READS IS OF BULK AT MOST 1048576: true; the input reads as it did. -/
def historyDigestsMatchSpecUptoRow : OpenClaim := { program := "ytojhnjgnpjoacaa", sum := "96bb7d68b32fd89b99672ed7f2c11d3e1e829eabc074cfa9e29e5ea22d9d0992", func := "changeforge/changeforgelaw3.HistoryDigestsMatchSpec", spec := "historyDigestsMatchSpec", unfollowed := true, recurses := true, named := ["math/bits.divideError", "math/bits.overflowError"], apart := false, narrowed := true }
def HistoryDigestsMatchSpecUptoSaid : Prop := historyDigestsMatchSpecUptoRow.holds Try.pinned (OpenSpec.upto historyDigestsMatchSpecSpec)

end Rows
end Go.Proofs.Ytojhnjgnpjoacaa
