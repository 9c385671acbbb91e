/-
  fairleadlaw24.SchedSlot returns true for every input and leaves its arguments as they were. No condition.
-/
import Derived.Test.YtgabhnekhdfhcaaSC
import Derived.Test.YtgabhnekhdfhcaaLC
import Derived.Test.YtgabhnekhdfhcaaRows
import Derived.Test.YtgabhnekhdfhcaaSQ
namespace Go.Proofs.Ytgabhnekhdfhcaa
open Go Go.Aw Go.ChangeShapes Go.WideShapes Go.ChangeAt Go.RowKit
set_option maxRecDepth 100000
set_option linter.unusedVariables false
theorem own : ownKnob Try.prog.godebug = none := by kernel_rfl
theorem laid : laidOutB Try.prog = true := by kernel_rfl
theorem rdJob : Rd Try.prog 28 jobC (fun _ => True) :=
  Rd.map (rd_struct (fs := _) Try.underlying28 (by kernel_rfl) (rdf_cons rfl (k := 1) (by kernel_rfl) (rd_int Try.underlying3) <| rdf_cons rfl (k := 1) (by kernel_rfl) (rd_int Try.underlying3) <|
    rdf_cons rfl (k := 1) (by kernel_rfl) (rd_int Try.underlying3) <| rdf_cons rfl (k := 1) (by kernel_rfl) (rd_int Try.underlying3) rdf_nil)) (fun p => ⟨p.1, p.2.1, p.2.2.1, p.2.2.2.1⟩) (fun _ => rfl) (fun _ _ => trivial)
theorem rdvJobs : RdV Try.prog 22 (fun l : List Job => .sl (l.map jobC) .none) (fun l => (∀ a ∈ l, True) ∧ l.length ≤ maxLen) := rdv_slice (n := 4) Try.underlying22 (by kernel_rfl) rdJob (fun _ => rfl)
theorem rdvInts : RdV Try.prog 23 (fun l : List Int => .sl (l.map iC) .none) (fun l => (∀ a ∈ l, (Lit.int .i64 a).wf = true) ∧ l.length ≤ maxLen) := rdv_slice (n := 1) Try.underlying23 (by kernel_rfl) (rd_int Try.underlying3) (fun _ => rfl)
theorem readable (l : List Nat) (h : (l.all fun t => Try.prog.readableRec t && decide (t < Try.prog.types.size)) = true) : ∀ t ∈ l, Try.prog.readableRec t = true ∧ t < Try.prog.types.size := by
  intro t ht
  have := List.all_eq_true.1 h t ht
  simpa using this
end Go.Proofs.Ytgabhnekhdfhcaa
namespace Go.Proofs.Ytgabhnekhdfhcaa
open Go Go.Aw Go.ChangeShapes Go.WideShapes Go.ChangeAt Go.RowKit
set_option maxRecDepth 100000
set_option linter.unusedVariables false
theorem schedSlot_lifted (os : Os) (started : os.Started) (H : Type) (enc : TypeId × Value → H) :
    ReturnsInHanded {} Try.checked os 3 .any (Rows.schedSlotSpec.pre6 enc Try.prog Try.f3 Rows.schedSlotRow.domain false) (Rows.schedSlotSpec.post enc Try.prog Try.f3 false true false false) := by
  refine returnsInHanded_of_change (C := Try.checked) own started (by kernel_rfl) Try.func3
    (ChangeSpec.witness6 (enc := enc) (C := Try.checked) false ⟨#[], #[.slice none 0 0, .int .i64 0, .int .i64 0, .slice none 0 0], []⟩ 8 (by kernel_rfl) (by kernel_rfl) (by kernel_rfl) (by kernel_rfl)) ?_
  intro W base args ds gs before hval hW _ _
  exact law_calls gSchedSlot Try.func3 rfl (by kernel_rfl) laid (readable _ (by kernel_rfl)) rfl (fun ds h => by match ds, h with | [d1, d2, d3, d4], _ => rfl) rfl Try.underlying4
    (rdas_cons rdvJobs (rdas_cons (rdv_int Try.underlying3) (rdas_cons (rdv_int Try.underlying3) (rdas_cons rdvInts rdas_nil)))) (fun a _ => ⟨⟨True, .v (.bool true), [], 0⟩, by simp only [cSchedSlot, ctr4, aJobs_dec, argI_dec, aInts_dec], trivial, rfl, rfl⟩) hval hW
theorem SchedSlot_holds : Rows.SchedSlotSaid :=
  OpenClaim.holds_of_wide 3 Try.f3 rfl rfl rfl rfl rfl rfl rfl ⟨rfl, rfl, rfl, rfl, rfl⟩ rfl rfl rfl rfl rfl (by kernel_rfl) Try.func3 (by kernel_rfl)
    (of_decide_eq_true (by kernel_rfl)) (by unfold Func.isWrapper; first | (rw [if_pos (by decide +kernel)]; kernel_rfl) | (rw [if_neg (by decide +kernel)]; exact ⟨rfl, rfl⟩))
    (fun os started H enc _ => schedSlot_lifted os started H enc)
end Go.Proofs.Ytgabhnekhdfhcaa