/- The walk of the program's power; no condition. -/
import Derived.Test.YtneknpamceipiaaYKitW
set_option linter.unusedVariables false
set_option linter.unusedSimpArgs false
namespace Go.Proofs.Ytneknpamceipiaa
open Go.RowKit Go.Proofs.YtneknpamceipiaaW.PrintWords
attribute [local go_sem] Later.cell Later.frozen Later.lt Later.lt_add Later.le Later.le_add Later.ne Later.ne' add_at
theorem pow_degs {p : Int} (hp : 2 ≤ p) {ts : List T4} (hc : Canon p ts) {k i : Nat} (hk : (k : Int) * max (degP ts) 0 ≤ 12) (hi : i ≤ k) : degP (powL p ts i) ≤ 12 := by
  have h1 := powL_deg hp hc.1 i
  have h2 : (i : Int) * max (degP ts) 0 ≤ (k : Int) * max (degP ts) 0 := Int.mul_le_mul_of_nonneg_right (by omega) (by omega)
  omega
theorem pow_len {p : Int} (hp : 2 ≤ p) {ts : List T4} (hc : Canon p ts) {k i : Nat} (hk : (k : Int) * max (degP ts) 0 ≤ 12) (hi : i ≤ k) : (powL p ts i).length ≤ 1183 :=
  deg_len (powL_canon hp ts i).1 (fun t ht => by
    have := degP_mem (powL_canon hp ts i).1 ht
    have := pow_degs hp hc hk hi
    omega)
end Go.Proofs.Ytneknpamceipiaa
