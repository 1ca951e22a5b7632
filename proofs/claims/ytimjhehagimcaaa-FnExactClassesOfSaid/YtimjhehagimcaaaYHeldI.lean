/- Marks on lists of numbers are read back: heldInt64S; no condition. -/
import Derived.Test.YtimjhehagimcaaaYKitK
set_option linter.unusedVariables false
set_option linter.unusedSimpArgs false
namespace Go.Proofs.Ytimjhehagimcaaa
open Go.RowKit Go.Proofs.YtimjhehagimcaaaW.PrintWords
attribute [local go_sem] Later.cell Later.frozen Later.lt Later.lt_add Later.le Later.le_add Later.ne Later.ne' add_at
theorem marksI_get (k : Int) (n i : Nat) (h : i < n) : (marksI k n).getD i 0 = k + i := by
  simp [marksI, List.getD_eq_getElem?_getD, h]
set_option maxRecDepth 100000 in
set_option maxHeartbeats 1000000 in
theorem heldInt64S_c (A : Option Addr) (c : Nat) (n : Nat) (k : Int) (w : World) (hC : kI.C w A n (marksI k n)) (hn : n ≤ 1048576) (hk : 0 ≤ k) (hk' : k ≤ 1099511627776) :
    Calls Try.prog 50 #[.slice A n c, .int .i64 k] w (Gives (.int .i64 (k + n)) w) := by
  go_enter Try.func50, Try.ntmps50
  go_wp2
  go_loopg [5, 1] n (fun g v kk w' => ∃ i : Nat, i + g = n ∧ v = .int .i64 i ∧ kk = .int .i64 (k + i) ∧ w' = w)
  case atStart => exact ⟨0, by omega, rfl, by simp, rfl⟩
  case round =>
    obtain ⟨i, hik, rfl, rfl, rfl⟩ := hrel
    have HIK := Lib.hid hik
    clear hik
    by_cases hlt : i < n
    · obtain ⟨b, o, hA, q0⟩ := kI_at hC i hlt
      rw [marksI_get k n i hlt] at q0
      subst hA
      have hi0 : (0 : Int) ≤ i := by omega
      have hi1 : (i : Int) < n := by omega
      have hin : ((i : Int)).toNat = i := by omega
      go_wp2
      go_roundg (n - i - 1)
      case measure => have := HIK.out; omega
      case rel => exact ⟨i + 1, by have := HIK.out; omega, by go_num, by go_num, rfl⟩
    · go_wp2
      go_ret
      have e : i = n := by have := HIK.out; omega
      subst e
      exact .mk rfl (Below.refl _ _)
end Go.Proofs.Ytimjhehagimcaaa
