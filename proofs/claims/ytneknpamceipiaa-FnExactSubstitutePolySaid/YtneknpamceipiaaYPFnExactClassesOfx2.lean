/- Contracts that the kit's print has written for functions on rows; no condition. -/
import Derived.Test.YtneknpamceipiaaProg
import Derived.Below
import Derived.Deep.Draws
import Derived.Deep.AppendLies
import Derived.Maps.AppendAt
import Derived.OwnWalk
import Derived.Laws.BytesArg
import Derived.Laws.MakeOwn
import Derived.Laws.OwnMore
import Derived.Deep.OwnRows
import Derived.Tactics
import Derived.Lib.ConvBytes
import Derived.Laws.Slices
import Derived.WalkKit
import Derived.KernelRfl
import Derived.RowKit3
import Derived.Deep.LoopGhost
import Derived.Deep.QuietTactic
import Derived.BigQuiet
import Derived.WideLaws
import Derived.Deep.DeepCutAuto
import Derived.Deep.CutBlock
import Derived.Deep.RegionHeld3
import Derived.Laws.Rows
import Derived.Lib.AppendStr
import Derived.ArgAppend
import Derived.Laws.IdiomCopy
import Derived.OrdersHeld
import Derived.Laws.BitsLemmas
import Derived.RowKit
import Derived.Test.YtneknpamceipiaaYWWords
import Derived.Test.YtneknpamceipiaaYWLast
import Derived.Test.YtneknpamceipiaaYWApart
import Derived.Test.YtneknpamceipiaaYWFoot
import Derived.Test.YtneknpamceipiaaYWKept
import Derived.Test.YtneknpamceipiaaYWShare
import Derived.Test.YtneknpamceipiaaYWN
import Derived.Test.YtneknpamceipiaaYWAt
import Derived.Laws.StructEq
import Derived.Test.YtneknpamceipiaaYWRepsOne
import Derived.Test.YtneknpamceipiaaYWInv
import Derived.Test.YtneknpamceipiaaYWMore
namespace Go.Proofs.Ytneknpamceipiaa.PFnExactClassesOf
open Go.RowKit Go.Proofs.YtneknpamceipiaaW.PrintWords Go.Proofs.YtneknpamceipiaaW.PrintLast Go.Proofs.YtneknpamceipiaaW.PrintMore
attribute [local go_sem] max2_int min2_int max_two min_two max_three min_three max_four min_four   -- for this text's walks alone
set_option linter.unusedVariables false
set_option linter.unusedSimpArgs false
/-! ### spec_l01Mod: function 132 -/
def spec_l01Mod.f (a0 : Int) (a1 : Int) : Option (Int) := if a0 = 0 then (none) else (some (Int.tmod (wrap64 ((Int.tmod a1 a0) + a0)) a0))
set_option maxHeartbeats 8000000 in
set_option maxRecDepth 100000 in
theorem spec_l01Mod.calls (a0 : Int) (a1 : Int) (r : Int) (w : World) (h : spec_l01Mod.f a0 a1 = some r) :
    Calls Try.prog 132 #[.int .i64 a0, .int .i64 a1] w fun e w' => e = .returned (.int .i64 r) ∧ Drawn0 w w' := by
  have H : (if a0 = 0 then (none) else (some (Int.tmod (wrap64 ((Int.tmod a1 a0) + a0)) a0))) = some r := h
  clear h
  by_cases c3 : a0 = 0
  · rw [if_pos c3] at H
    exact absurd H (by simp)
  · rw [if_neg c3] at H
    have c3b0 : (a0 == 0) = false := beq_eq_false_iff_ne.mpr c3
    have c3b1 : (a0 != 0) = true := bne_iff_ne.mpr c3
    obtain rfl := Option.some.inj H
    go_enter Try.func132, Try.ntmps132
    go_wp2
    go_ret
    exact ⟨by first | rfl | (simp; done) | (simp [*]; done), by repeat (first | exact Drawn0.refl _ | apply Drawn0.step)⟩
/-! ### spec_l01Less: function 83 -/
/-! ### spec_l01Own: function 131 -/
/-! ### spec_l01Rest: function 80 -/
/-! ### spec_l01Inverse: function 82 -/
/-! ### impl_isPrime: function 45 -/
/-! ### impl_isVars: function 102 -/
/-! ### impl_inverse: function 134 -/
end Go.Proofs.Ytneknpamceipiaa.PFnExactClassesOf
