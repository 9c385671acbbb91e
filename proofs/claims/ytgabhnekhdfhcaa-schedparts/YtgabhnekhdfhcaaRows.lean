/-
  No cell of these rows narrows 'for every input' (looked for: loops, veiled, ifaces, maps, wideKeys, modest, calm, conditions, laid).
  DERIVED. THE GIVEN ROWS OF THIS SEAT. 3 by the template 'for every input the law returns true; each argument reads behind the call as it read before'; 0 by the template 'total and deterministic' (their statements: YtgabhnekhdfhcaaTotals.lean).
  GIVEN WITH THE SEED: the statements are not yours to turn. If you find one false, say at which input.
  Laid BY PROGRAM, IN A SANDBOX (cutbox-rows.mjs): the forced cells as the released guide's own fill.sh prints them over the translation 2ee9746a2d698e68… (all of the seat's roots in one cut). By AI agents, Wed Nov 11 2026. No macro, syntax, notation, axiom, sorry.
-/
import Derived.Test.YtgabhnekhdfhcaaChecked
import GoSem.Claim
import GoSem.ClaimJoined
import GoSem.ClaimMapViews
import Derived.JoinedTies
import Derived.KernelRfl
namespace Go.Proofs.Ytgabhnekhdfhcaa
/- THE CELL 'sum', in the pinned program and in every row, IS THE sha256 OF THE DUMP (.gsa) THAT YtgabhnekhdfhcaaProg.lean LOADS. Nothing in Lean hashes anything: it is a label: what it is worth is what the hold of that sum in a sandbox is worth. -/
noncomputable def Try.pinned : Pinned := { name := "ytgabhnekhdfhcaa", sum := "2ee9746a2d698e68629845f68e68aa9f26fec162d8e970f51a2b0cb9b1c71ac9", checked := Try.checked }
namespace Rows
def none {H : Type} : Left H := { results := [], args := [] }

/-- 'fairleadlaw24.SchedSlot': WHATEVER THE INPUT: true; the input reads as it did. -/
def schedSlotSpec : ChangeSpec := { name := "schedSlot", fn := fun _ => fun
  | [d1, d2, d3, d4] => { results := [.lit (.bool true)], args := [d1, d2, d3, d4] }
  | _ => none }
def schedSlotRow : OpenClaim := { program := "ytgabhnekhdfhcaa", sum := "2ee9746a2d698e68629845f68e68aa9f26fec162d8e970f51a2b0cb9b1c71ac9", func := "fairlead/fairleadlaw24.SchedSlot", spec := "schedSlot", inPlace := ["slices.overlaps[fairlead/api.Job]"], unfollowed := true, recurses := true, apart := false }
def SchedSlotSaid : Prop := schedSlotRow.holds Try.pinned (OpenSpec.ofChange schedSlotSpec)

/-- ITS FALSE NEIGHBOUR: 'it returns false'. Refute it at one input. -/
def schedSlotWrong : ChangeSpec := { name := "schedSlot", fn := fun _ => fun
  | [d1, d2, d3, d4] => { results := [.lit (.bool false)], args := [d1, d2, d3, d4] }
  | _ => none }
def SchedSlotWrongFalsely : Prop := schedSlotRow.holds Try.pinned (OpenSpec.ofChange schedSlotWrong)

/-- 'fairleadlaw24.SchedParts': WHATEVER THE INPUT: true; the input reads as it did. -/
def schedPartsSpec : ChangeSpec := { name := "schedParts", fn := fun _ => fun
  | [d1, d2] => { results := [.lit (.bool true)], args := [d1, d2] }
  | _ => none }
def schedPartsRow : OpenClaim := { program := "ytgabhnekhdfhcaa", sum := "2ee9746a2d698e68629845f68e68aa9f26fec162d8e970f51a2b0cb9b1c71ac9", func := "fairlead/fairleadlaw24.SchedParts", spec := "schedParts", inPlace := ["slices.overlaps[fairlead/api.Job]"], unfollowed := true, recurses := true, apart := false }
def SchedPartsSaid : Prop := schedPartsRow.holds Try.pinned (OpenSpec.ofChange schedPartsSpec)

/-- ITS FALSE NEIGHBOUR: 'it returns false'. Refute it at one input. -/
def schedPartsWrong : ChangeSpec := { name := "schedParts", fn := fun _ => fun
  | [d1, d2] => { results := [.lit (.bool false)], args := [d1, d2] }
  | _ => none }
def SchedPartsWrongFalsely : Prop := schedPartsRow.holds Try.pinned (OpenSpec.ofChange schedPartsWrong)

/-- 'fairleadlaw24.SchedLost': WHATEVER THE INPUT: true; the input reads as it did. -/
def schedLostSpec : ChangeSpec := { name := "schedLost", fn := fun _ => fun
  | [d1, d2] => { results := [.lit (.bool true)], args := [d1, d2] }
  | _ => none }
def schedLostRow : OpenClaim := { program := "ytgabhnekhdfhcaa", sum := "2ee9746a2d698e68629845f68e68aa9f26fec162d8e970f51a2b0cb9b1c71ac9", func := "fairlead/fairleadlaw24.SchedLost", spec := "schedLost", inPlace := ["slices.overlaps[fairlead/api.Job]"], unfollowed := true, recurses := true, apart := false }
def SchedLostSaid : Prop := schedLostRow.holds Try.pinned (OpenSpec.ofChange schedLostSpec)

/-- ITS FALSE NEIGHBOUR: 'it returns false'. Refute it at one input. -/
def schedLostWrong : ChangeSpec := { name := "schedLost", fn := fun _ => fun
  | [d1, d2] => { results := [.lit (.bool false)], args := [d1, d2] }
  | _ => none }
def SchedLostWrongFalsely : Prop := schedLostRow.holds Try.pinned (OpenSpec.ofChange schedLostWrong)

/- THE SECOND FORM. 'bulk': how many values and letters a reading holds, each counted each time it is reached (what is shared counts as often as it is met; a slice's spare places count too). A statement '..UptoSaid' is the law's where the arguments, and the package variables that the reading takes, are together of bulk at most 1048576: NARROWER than '..Said'. Prove '..Said' where nothing that the law and all that it calls make is longer than what came in: it says more and counts as full. Else prove '..UptoSaid'. A law counts once. -/
mutual
def uptoBulk {H : Type} : DataW H → Nat
  | .lit (.string bytes) => bytes.length + 1
  | .lit _ => 1
  | .nil => 1
  | .ptr d => uptoBulk d + 1
  | .slice elems spare => uptoBulkAll elems + uptoBulkAll spare + 1
  | .agg parts => uptoBulkAll parts + 1
  | .iface _ d => uptoBulk d + 1
  | .map entries => uptoBulkEntries entries + 1
  | .held _ => 1
def uptoBulkAll {H : Type} : List (DataW H) → Nat
  | [] => 0
  | d :: r => uptoBulk d + uptoBulkAll r
def uptoBulkEntries {H : Type} : List (Lit × DataW H) → Nat
  | [] => 0
  | x :: r => uptoBulkEntry x + uptoBulkEntries r
def uptoBulkEntry {H : Type} : Lit × DataW H → Nat
  | (.string bytes, d) => bytes.length + uptoBulk d + 1
  | (_, d) => uptoBulk d + 1
 end
def uptoSmall : (H : Type) → List (DataW H) → Bool := fun _ ds => decide (uptoBulkAll ds ≤ 1048576)
def OpenSpec.upto (s : _root_.Go.ChangeSpec) : _root_.Go.OpenSpec := { _root_.Go.OpenSpec.ofChange s with cond := some uptoSmall }

/-- 'fairleadlaw24.SchedSlot', WHERE WHAT IT READS IS OF BULK AT MOST 1048576: true; the input reads as it did. -/
def schedSlotUptoRow : OpenClaim := { program := "ytgabhnekhdfhcaa", sum := "2ee9746a2d698e68629845f68e68aa9f26fec162d8e970f51a2b0cb9b1c71ac9", func := "fairlead/fairleadlaw24.SchedSlot", spec := "schedSlot", inPlace := ["slices.overlaps[fairlead/api.Job]"], unfollowed := true, recurses := true, apart := false, narrowed := true }
def SchedSlotUptoSaid : Prop := schedSlotUptoRow.holds Try.pinned (OpenSpec.upto schedSlotSpec)

/-- 'fairleadlaw24.SchedParts', WHERE WHAT IT READS IS OF BULK AT MOST 1048576: true; the input reads as it did. -/
def schedPartsUptoRow : OpenClaim := { program := "ytgabhnekhdfhcaa", sum := "2ee9746a2d698e68629845f68e68aa9f26fec162d8e970f51a2b0cb9b1c71ac9", func := "fairlead/fairleadlaw24.SchedParts", spec := "schedParts", inPlace := ["slices.overlaps[fairlead/api.Job]"], unfollowed := true, recurses := true, apart := false, narrowed := true }
def SchedPartsUptoSaid : Prop := schedPartsUptoRow.holds Try.pinned (OpenSpec.upto schedPartsSpec)

/-- 'fairleadlaw24.SchedLost', WHERE WHAT IT READS IS OF BULK AT MOST 1048576: true; the input reads as it did. -/
def schedLostUptoRow : OpenClaim := { program := "ytgabhnekhdfhcaa", sum := "2ee9746a2d698e68629845f68e68aa9f26fec162d8e970f51a2b0cb9b1c71ac9", func := "fairlead/fairleadlaw24.SchedLost", spec := "schedLost", inPlace := ["slices.overlaps[fairlead/api.Job]"], unfollowed := true, recurses := true, apart := false, narrowed := true }
def SchedLostUptoSaid : Prop := schedLostUptoRow.holds Try.pinned (OpenSpec.upto schedLostSpec)

end Rows
end Go.Proofs.Ytgabhnekhdfhcaa
