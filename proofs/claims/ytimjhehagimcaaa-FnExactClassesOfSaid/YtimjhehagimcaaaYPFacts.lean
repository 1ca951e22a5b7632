/- Closed facts on the whole program of the seat Ytimjhehagimcaaa, which every row shares; no condition. -/
import Derived.Test.YtimjhehagimcaaaYHead
import Derived.WalkKit
import Derived.ProofKit
namespace Go.Proofs.Ytimjhehagimcaaa
open Go.ChangeShapes Go.WideShapes Go.ChangeAt Go.RowKit
theorem and_mk {a b : Bool} (h1 : a = true) (h2 : b = true) : (a && b) = true := by rw [h1, h2]; rfl
theorem own : ownKnob Try.prog.godebug = none := by as_aux_lemma => kernel_rfl
theorem laidOut : laidOutB Try.prog = true := by as_aux_lemma => kernel_rfl
theorem pf_mapsRowed : mapsRowed Try.prog = true := by as_aux_lemma => kernel_rfl
theorem pf_stops : (Try.prog.stops == []) = true := by as_aux_lemma => kernel_rfl
theorem pf_stopKnobs : (Try.prog.stopKnobs == []) = true := by as_aux_lemma => kernel_rfl
theorem pf_stopsHeard : Try.prog.stopsHeard = true := by as_aux_lemma => kernel_rfl
end Go.Proofs.Ytimjhehagimcaaa
