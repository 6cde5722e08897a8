/-
  No cell of these rows narrows 'for every input' (looked for: loops, veiled, ifaces, maps, wideKeys, modest, calm, conditions, laid).
  DERIVED. THE GIVEN ROWS OF THIS SEAT. 7 by the template 'for every input the law returns true; each argument reads behind the call as it read before'; 0 by the template 'total and deterministic' (their statements: YtgmpnghgmcgghaaTotals.lean).
  GIVEN WITH THE SEED: the statements are not yours to turn. If you find one false, say at which input.
  Laid BY PROGRAM, IN A SANDBOX (cutbox-rows.mjs): the forced cells as the released guide's own fill.sh prints them over the translation dbe808942db4d6af… (all of the seat's roots in one cut). By AI agents, Wed Nov 11 2026. No macro, syntax, notation, axiom, sorry.
-/
import Derived.Test.YtgmpnghgmcgghaaChecked
import GoSem.Claim
import GoSem.ClaimJoined
import GoSem.ClaimMapViews
import Derived.JoinedTies
import Derived.KernelRfl
namespace Go.Proofs.Ytgmpnghgmcgghaa
/- THE CELL 'sum', in the pinned program and in every row, IS THE sha256 OF THE DUMP (.gsa) THAT YtgmpnghgmcgghaaProg.lean LOADS. Nothing in Lean hashes anything: it is a label: what it is worth is what the hold of that sum in a sandbox is worth. -/
noncomputable def Try.pinned : Pinned := { name := "ytgmpnghgmcgghaa", sum := "dbe808942db4d6afdf8c27577cf787bbd8d0f2a80102d319c163fc7a2783a8ed", checked := Try.checked }
namespace Rows
def none {H : Type} : Left H := { results := [], args := [] }

/-- 'changeforgelaw3.DeltachainEncodeMatchesSpec': WHATEVER THE INPUT: true; the input reads as it did. -/
def deltachainEncodeMatchesSpecSpec : ChangeSpec := { name := "deltachainEncodeMatchesSpec", fn := fun _ => fun
  | [d1, d2] => { results := [.lit (.bool true)], args := [d1, d2] }
  | _ => none }
def deltachainEncodeMatchesSpecRow : OpenClaim := { program := "ytgmpnghgmcgghaa", sum := "dbe808942db4d6afdf8c27577cf787bbd8d0f2a80102d319c163fc7a2783a8ed", func := "changeforge/changeforgelaw3.DeltachainEncodeMatchesSpec", spec := "deltachainEncodeMatchesSpec", apart := false }
def DeltachainEncodeMatchesSpecSaid : Prop := deltachainEncodeMatchesSpecRow.holds Try.pinned (OpenSpec.ofChange deltachainEncodeMatchesSpecSpec)

/-- ITS FALSE NEIGHBOUR: 'it returns false'. Refute it at one input. -/
def deltachainEncodeMatchesSpecWrong : ChangeSpec := { name := "deltachainEncodeMatchesSpec", fn := fun _ => fun
  | [d1, d2] => { results := [.lit (.bool false)], args := [d1, d2] }
  | _ => none }
def DeltachainEncodeMatchesSpecWrongFalsely : Prop := deltachainEncodeMatchesSpecRow.holds Try.pinned (OpenSpec.ofChange deltachainEncodeMatchesSpecWrong)

/-- 'changeforgelaw3.DeltachainApplyMatchesSpec': WHATEVER THE INPUT: true; the input reads as it did. -/
def deltachainApplyMatchesSpecSpec : ChangeSpec := { name := "deltachainApplyMatchesSpec", fn := fun _ => fun
  | [d1, d2] => { results := [.lit (.bool true)], args := [d1, d2] }
  | _ => none }
def deltachainApplyMatchesSpecRow : OpenClaim := { program := "ytgmpnghgmcgghaa", sum := "dbe808942db4d6afdf8c27577cf787bbd8d0f2a80102d319c163fc7a2783a8ed", func := "changeforge/changeforgelaw3.DeltachainApplyMatchesSpec", spec := "deltachainApplyMatchesSpec", apart := false }
def DeltachainApplyMatchesSpecSaid : Prop := deltachainApplyMatchesSpecRow.holds Try.pinned (OpenSpec.ofChange deltachainApplyMatchesSpecSpec)

/-- ITS FALSE NEIGHBOUR: 'it returns false'. Refute it at one input. -/
def deltachainApplyMatchesSpecWrong : ChangeSpec := { name := "deltachainApplyMatchesSpec", fn := fun _ => fun
  | [d1, d2] => { results := [.lit (.bool false)], args := [d1, d2] }
  | _ => none }
def DeltachainApplyMatchesSpecWrongFalsely : Prop := deltachainApplyMatchesSpecRow.holds Try.pinned (OpenSpec.ofChange deltachainApplyMatchesSpecWrong)

/-- 'changeforgelaw3.DeltachainRoundTrip': WHATEVER THE INPUT: true; the input reads as it did. -/
def deltachainRoundTripSpec : ChangeSpec := { name := "deltachainRoundTrip", fn := fun _ => fun
  | [d1, d2] => { results := [.lit (.bool true)], args := [d1, d2] }
  | _ => none }
def deltachainRoundTripRow : OpenClaim := { program := "ytgmpnghgmcgghaa", sum := "dbe808942db4d6afdf8c27577cf787bbd8d0f2a80102d319c163fc7a2783a8ed", func := "changeforge/changeforgelaw3.DeltachainRoundTrip", spec := "deltachainRoundTrip", apart := false }
def DeltachainRoundTripSaid : Prop := deltachainRoundTripRow.holds Try.pinned (OpenSpec.ofChange deltachainRoundTripSpec)

/-- ITS FALSE NEIGHBOUR: 'it returns false'. Refute it at one input. -/
def deltachainRoundTripWrong : ChangeSpec := { name := "deltachainRoundTrip", fn := fun _ => fun
  | [d1, d2] => { results := [.lit (.bool false)], args := [d1, d2] }
  | _ => none }
def DeltachainRoundTripWrongFalsely : Prop := deltachainRoundTripRow.holds Try.pinned (OpenSpec.ofChange deltachainRoundTripWrong)

/-- 'changeforgelaw3.DeltachainIdentity': WHATEVER THE INPUT: true; the input reads as it did. -/
def deltachainIdentitySpec : ChangeSpec := { name := "deltachainIdentity", fn := fun _ => fun
  | [d] => { results := [.lit (.bool true)], args := [d] }
  | _ => none }
def deltachainIdentityRow : OpenClaim := { program := "ytgmpnghgmcgghaa", sum := "dbe808942db4d6afdf8c27577cf787bbd8d0f2a80102d319c163fc7a2783a8ed", func := "changeforge/changeforgelaw3.DeltachainIdentity", spec := "deltachainIdentity", apart := false }
def DeltachainIdentitySaid : Prop := deltachainIdentityRow.holds Try.pinned (OpenSpec.ofChange deltachainIdentitySpec)

/-- ITS FALSE NEIGHBOUR: 'it returns false'. Refute it at one input. -/
def deltachainIdentityWrong : ChangeSpec := { name := "deltachainIdentity", fn := fun _ => fun
  | [d] => { results := [.lit (.bool false)], args := [d] }
  | _ => none }
def DeltachainIdentityWrongFalsely : Prop := deltachainIdentityRow.holds Try.pinned (OpenSpec.ofChange deltachainIdentityWrong)

/-- 'changeforgelaw3.DeltachainPackMatchesSpec': WHATEVER THE INPUT: true; the input reads as it did. -/
def deltachainPackMatchesSpecSpec : ChangeSpec := { name := "deltachainPackMatchesSpec", fn := fun _ => fun
  | [d1, d2] => { results := [.lit (.bool true)], args := [d1, d2] }
  | _ => none }
def deltachainPackMatchesSpecRow : OpenClaim := { program := "ytgmpnghgmcgghaa", sum := "dbe808942db4d6afdf8c27577cf787bbd8d0f2a80102d319c163fc7a2783a8ed", func := "changeforge/changeforgelaw3.DeltachainPackMatchesSpec", spec := "deltachainPackMatchesSpec", apart := false }
def DeltachainPackMatchesSpecSaid : Prop := deltachainPackMatchesSpecRow.holds Try.pinned (OpenSpec.ofChange deltachainPackMatchesSpecSpec)

/-- ITS FALSE NEIGHBOUR: 'it returns false'. Refute it at one input. -/
def deltachainPackMatchesSpecWrong : ChangeSpec := { name := "deltachainPackMatchesSpec", fn := fun _ => fun
  | [d1, d2] => { results := [.lit (.bool false)], args := [d1, d2] }
  | _ => none }
def DeltachainPackMatchesSpecWrongFalsely : Prop := deltachainPackMatchesSpecRow.holds Try.pinned (OpenSpec.ofChange deltachainPackMatchesSpecWrong)

/-- 'changeforgelaw3.DeltachainReadMatchesSpec': WHATEVER THE INPUT: true; the input reads as it did. -/
def deltachainReadMatchesSpecSpec : ChangeSpec := { name := "deltachainReadMatchesSpec", fn := fun _ => fun
  | [d1, d2] => { results := [.lit (.bool true)], args := [d1, d2] }
  | _ => none }
def deltachainReadMatchesSpecRow : OpenClaim := { program := "ytgmpnghgmcgghaa", sum := "dbe808942db4d6afdf8c27577cf787bbd8d0f2a80102d319c163fc7a2783a8ed", func := "changeforge/changeforgelaw3.DeltachainReadMatchesSpec", spec := "deltachainReadMatchesSpec", recurses := true, apart := false }
def DeltachainReadMatchesSpecSaid : Prop := deltachainReadMatchesSpecRow.holds Try.pinned (OpenSpec.ofChange deltachainReadMatchesSpecSpec)

/-- ITS FALSE NEIGHBOUR: 'it returns false'. Refute it at one input. -/
def deltachainReadMatchesSpecWrong : ChangeSpec := { name := "deltachainReadMatchesSpec", fn := fun _ => fun
  | [d1, d2] => { results := [.lit (.bool false)], args := [d1, d2] }
  | _ => none }
def DeltachainReadMatchesSpecWrongFalsely : Prop := deltachainReadMatchesSpecRow.holds Try.pinned (OpenSpec.ofChange deltachainReadMatchesSpecWrong)

/-- 'changeforgelaw3.DeltachainDepthBound': WHATEVER THE INPUT: true; the input reads as it did. -/
def deltachainDepthBoundSpec : ChangeSpec := { name := "deltachainDepthBound", fn := fun _ => fun
  | [d1, d2] => { results := [.lit (.bool true)], args := [d1, d2] }
  | _ => none }
def deltachainDepthBoundRow : OpenClaim := { program := "ytgmpnghgmcgghaa", sum := "dbe808942db4d6afdf8c27577cf787bbd8d0f2a80102d319c163fc7a2783a8ed", func := "changeforge/changeforgelaw3.DeltachainDepthBound", spec := "deltachainDepthBound", apart := false }
def DeltachainDepthBoundSaid : Prop := deltachainDepthBoundRow.holds Try.pinned (OpenSpec.ofChange deltachainDepthBoundSpec)

/-- ITS FALSE NEIGHBOUR: 'it returns false'. Refute it at one input. -/
def deltachainDepthBoundWrong : ChangeSpec := { name := "deltachainDepthBound", fn := fun _ => fun
  | [d1, d2] => { results := [.lit (.bool false)], args := [d1, d2] }
  | _ => none }
def DeltachainDepthBoundWrongFalsely : Prop := deltachainDepthBoundRow.holds Try.pinned (OpenSpec.ofChange deltachainDepthBoundWrong)

/- THE SECOND FORM. 'bulk': how many values and letters a reading holds, each counted each time it is reached (what is shared counts as often as it is met; a slice's spare places count too). A statement '..UptoSaid' is the law's where the arguments, and the package variables that the reading takes, are together of bulk at most 1048576: NARROWER than '..Said'. Prove '..Said' where nothing that the law and all that it calls make is longer than what came in: it says more and counts as full. Else prove '..UptoSaid'. A law counts once. -/
mutual
def uptoBulk {H : Type} : DataW H → Nat
  | .lit (.string bytes) => bytes.length + 1
  | .lit _ => 1
  | .nil => 1
  | .ptr d => uptoBulk d + 1
  | .slice elems spare => uptoBulkAll elems + uptoBulkAll spare + 1
  | .agg parts => uptoBulkAll parts + 1
  | .iface _ d => uptoBulk d + 1
  | .map entries => uptoBulkEntries entries + 1
  | .held _ => 1
def uptoBulkAll {H : Type} : List (DataW H) → Nat
  | [] => 0
  | d :: r => uptoBulk d + uptoBulkAll r
def uptoBulkEntries {H : Type} : List (Lit × DataW H) → Nat
  | [] => 0
  | x :: r => uptoBulkEntry x + uptoBulkEntries r
def uptoBulkEntry {H : Type} : Lit × DataW H → Nat
  | (.string bytes, d) => bytes.length + uptoBulk d + 1
  | (_, d) => uptoBulk d + 1
 end
def uptoSmall : (H : Type) → List (DataW H) → Bool := fun _ ds => decide (uptoBulkAll ds ≤ 1048576)
def OpenSpec.upto (s : _root_.Go.ChangeSpec) : _root_.Go.OpenSpec := { _root_.Go.OpenSpec.ofChange s with cond := some uptoSmall }

/-- 'changeforgelaw3.DeltachainEncodeMatchesSpec', WHERE WHAT IT READS IS OF BULK AT MOST 1048576: true; the input reads as it did. -/
def deltachainEncodeMatchesSpecUptoRow : OpenClaim := { program := "ytgmpnghgmcgghaa", sum := "dbe808942db4d6afdf8c27577cf787bbd8d0f2a80102d319c163fc7a2783a8ed", func := "changeforge/changeforgelaw3.DeltachainEncodeMatchesSpec", spec := "deltachainEncodeMatchesSpec", apart := false, narrowed := true }
def DeltachainEncodeMatchesSpecUptoSaid : Prop := deltachainEncodeMatchesSpecUptoRow.holds Try.pinned (OpenSpec.upto deltachainEncodeMatchesSpecSpec)

/-- 'changeforgelaw3.DeltachainApplyMatchesSpec', WHERE WHAT IT READS IS OF BULK AT MOST 1048576: true; the input reads as it did. -/
def deltachainApplyMatchesSpecUptoRow : OpenClaim := { program := "ytgmpnghgmcgghaa", sum := "dbe808942db4d6afdf8c27577cf787bbd8d0f2a80102d319c163fc7a2783a8ed", func := "changeforge/changeforgelaw3.DeltachainApplyMatchesSpec", spec := "deltachainApplyMatchesSpec", apart := false, narrowed := true }
def DeltachainApplyMatchesSpecUptoSaid : Prop := deltachainApplyMatchesSpecUptoRow.holds Try.pinned (OpenSpec.upto deltachainApplyMatchesSpecSpec)

/-- 'changeforgelaw3.DeltachainRoundTrip', WHERE WHAT IT READS IS OF BULK AT MOST 1048576: true; the input reads as it did. -/
def deltachainRoundTripUptoRow : OpenClaim := { program := "ytgmpnghgmcgghaa", sum := "dbe808942db4d6afdf8c27577cf787bbd8d0f2a80102d319c163fc7a2783a8ed", func := "changeforge/changeforgelaw3.DeltachainRoundTrip", spec := "deltachainRoundTrip", apart := false, narrowed := true }
def DeltachainRoundTripUptoSaid : Prop := deltachainRoundTripUptoRow.holds Try.pinned (OpenSpec.upto deltachainRoundTripSpec)

/-- 'changeforgelaw3.DeltachainIdentity', WHERE WHAT IT READS IS OF BULK AT MOST 1048576: true; the input reads as it did. -/
def deltachainIdentityUptoRow : OpenClaim := { program := "ytgmpnghgmcgghaa", sum := "dbe808942db4d6afdf8c27577cf787bbd8d0f2a80102d319c163fc7a2783a8ed", func := "changeforge/changeforgelaw3.DeltachainIdentity", spec := "deltachainIdentity", apart := false, narrowed := true }
def DeltachainIdentityUptoSaid : Prop := deltachainIdentityUptoRow.holds Try.pinned (OpenSpec.upto deltachainIdentitySpec)

/-- 'changeforgelaw3.DeltachainPackMatchesSpec', WHERE WHAT IT READS IS OF BULK AT MOST 1048576: true; the input reads as it did. -/
def deltachainPackMatchesSpecUptoRow : OpenClaim := { program := "ytgmpnghgmcgghaa", sum := "dbe808942db4d6afdf8c27577cf787bbd8d0f2a80102d319c163fc7a2783a8ed", func := "changeforge/changeforgelaw3.DeltachainPackMatchesSpec", spec := "deltachainPackMatchesSpec", apart := false, narrowed := true }
def DeltachainPackMatchesSpecUptoSaid : Prop := deltachainPackMatchesSpecUptoRow.holds Try.pinned (OpenSpec.upto deltachainPackMatchesSpecSpec)

/-- 'changeforgelaw3.DeltachainReadMatchesSpec', WHERE WHAT IT READS IS OF BULK AT MOST 1048576: true; the input reads as it did. -/
def deltachainReadMatchesSpecUptoRow : OpenClaim := { program := "ytgmpnghgmcgghaa", sum := "dbe808942db4d6afdf8c27577cf787bbd8d0f2a80102d319c163fc7a2783a8ed", func := "changeforge/changeforgelaw3.DeltachainReadMatchesSpec", spec := "deltachainReadMatchesSpec", recurses := true, apart := false, narrowed := true }
def DeltachainReadMatchesSpecUptoSaid : Prop := deltachainReadMatchesSpecUptoRow.holds Try.pinned (OpenSpec.upto deltachainReadMatchesSpecSpec)

/-- 'changeforgelaw3.DeltachainDepthBound', WHERE WHAT IT READS IS OF BULK AT MOST 1048576: true; the input reads as it did. -/
def deltachainDepthBoundUptoRow : OpenClaim := { program := "ytgmpnghgmcgghaa", sum := "dbe808942db4d6afdf8c27577cf787bbd8d0f2a80102d319c163fc7a2783a8ed", func := "changeforge/changeforgelaw3.DeltachainDepthBound", spec := "deltachainDepthBound", apart := false, narrowed := true }
def DeltachainDepthBoundUptoSaid : Prop := deltachainDepthBoundUptoRow.holds Try.pinned (OpenSpec.upto deltachainDepthBoundSpec)

end Rows
end Go.Proofs.Ytgmpnghgmcgghaa
