/- Closed facts of the row of FnExactPowerPoly that are dear to the kernel; no condition. -/
import Derived.Test.YtafdakamibpjaaaPFacts
namespace Go.Proofs.Ytafdakamibpjaaa
open Go.ChangeShapes Go.WideShapes Go.ChangeAt Go.RowKit
theorem powerPoly_inPlace : (Rows.fnExactPowerPolyRow.inPlace == Try.prog.inPlace 14) = true := by as_aux_lemma => kernel_rfl
theorem powerPoly_unfollowed : (Rows.fnExactPowerPolyRow.unfollowed == Try.prog.unfollowed 14) = true := by as_aux_lemma => kernel_rfl
theorem powerPoly_recurses : (Rows.fnExactPowerPolyRow.recurses == Try.prog.recurses 14) = true := by as_aux_lemma => kernel_rfl
theorem powerPoly_named : (Rows.fnExactPowerPolyRow.named == Try.prog.varsNamed 14) = true := by as_aux_lemma => kernel_rfl
end Go.Proofs.Ytafdakamibpjaaa
