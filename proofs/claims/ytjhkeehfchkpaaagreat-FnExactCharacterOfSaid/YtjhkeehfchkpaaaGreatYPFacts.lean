/- Closed facts on the whole program of the seat YtjhkeehfchkpaaaGreat, which every row shares; no condition. -/
import Derived.Test.YtjhkeehfchkpaaaGreatYHead
import Derived.WalkKit
import Derived.ProofKit
namespace Go.Proofs.YtjhkeehfchkpaaaGreat
open Go.ChangeShapes Go.WideShapes Go.ChangeAt Go.RowKit
theorem and_mk {a b : Bool} (h1 : a = true) (h2 : b = true) : (a && b) = true := by rw [h1, h2]; rfl
theorem own : ownKnob Tryz.prog.godebug = none := by as_aux_lemma => kernel_rfl
theorem laidOut : laidOutB Tryz.prog = true := by as_aux_lemma => kernel_rfl
theorem pf_mapsRowed : mapsRowed Tryz.prog = true := by as_aux_lemma => kernel_rfl
theorem pf_stops : (Tryz.prog.stops == []) = true := by as_aux_lemma => kernel_rfl
theorem pf_stopKnobs : (Tryz.prog.stopKnobs == []) = true := by as_aux_lemma => kernel_rfl
theorem pf_stopsHeard : Tryz.prog.stopsHeard = true := by as_aux_lemma => kernel_rfl
end Go.Proofs.YtjhkeehfchkpaaaGreat
