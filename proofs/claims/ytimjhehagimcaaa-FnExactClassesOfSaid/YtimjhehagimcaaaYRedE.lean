/- Equal lists of rows; no condition. -/
import Derived.Test.YtimjhehagimcaaaYRedP
import Derived.Test.YtimjhehagimcaaaYKitA
import Derived.BigQuiet
set_option linter.unusedVariables false
set_option linter.unusedSimpArgs false
namespace Go.Proofs.Ytimjhehagimcaaa
open Go.RowKit Go.Proofs.YtimjhehagimcaaaW.PrintWords
attribute [local go_sem] Later.cell Later.frozen Later.lt Later.lt_add Later.le Later.le_add Later.ne Later.ne' add_at
set_option maxRecDepth 100000 in
theorem eqSS_same (A B : Option Addr) (c b : Nat) (rows : List (List Int)) (w : World) (hC : kL.C w A rows.length rows) (hD : kL.C w B rows.length rows) (hn : rows.length ≤ 1048576) (hr : ∀ i, (rows.getD i []).length ≤ 1048576) :
    Calls Try.prog 12 #[.slice A rows.length c, .slice B rows.length b] w (Gives (.bool true) w) := by
  have HR := Lib.hid hr
  clear hr
  go_enter Try.func12, Try.ntmps12
  go_wp2
  go_loopg [5] rows.length (fun g v5 w' => ∃ (i : Nat), i + g = rows.length ∧ v5 = .int .i64 i ∧ Below w.heap.size w w')
  case atStart => exact ⟨0, by omega, rfl, bq1⟩
  case round =>
    obtain ⟨i, hik, rfl, hbel⟩ := hrel
    have HIK := Lib.hid hik
    clear hik
    by_cases hlt : i < rows.length
    · obtain ⟨b1, o1, B1, cc1, hA, q0, hcc1, hC1⟩ := kL_at hC i hlt
      obtain ⟨b2, o2, B2, cc2, hB, k0, hcc2, hC2⟩ := kL_at hD i hlt
      subst hA
      subst hB
      have q0 := pw_cell_below hbel q0
      have k0 := pw_cell_below hbel k0
      have z1 := World.block_lt_of_cell? _ _ q0
      have z2 := World.block_lt_of_cell? _ _ k0
      simp only [] at z1 z2
      have hi0 : (0 : Int) ≤ i := by omega
      have hi1 : (i : Int) < rows.length := by omega
      have hin : ((i : Int)).toNat = i := by omega
      have hE : ∀ y : Later wr, Calls Try.prog 38 #[.slice B1 (rows.getD i []).length cc1, .slice B2 (rows.getD i []).length cc2] y.W (Gives (.bool true) y.W) := fun y => by
        have h := eqInt64S_c B1 B2 cc1 cc2 (rows.getD i []) (rows.getD i []) y.W (Kd.C_below hC1 (hbel.trans (y.ok.mono hbel.size))) (Kd.C_below hC2 (hbel.trans (y.ok.mono hbel.size))) (HR.out i) (HR.out i)
        rwa [show (rows.getD i [] == rows.getD i []) = true from by simp] at h
      generalize rows.getD i [] = y at *
      go_wp2
      (first | refine wp_region_later2 (by kernel_rfl) (by kernel_rfl) ?_ | refine wp_region_later (by kernel_rfl) (by kernel_rfl) ?_); (repeat (go_big_quiet_step ((go_at_call 38; with_reducible exact quiet_later (hE _))))); refine wpQuiet_nil ?_; intro x
      have hb2 : Below w.heap.size w x.W := hbel.trans (x.ok.mono hbel.size)
      go_wp2
      go_roundg (gk - 1)
      case measure => have := HIK.out; omega
      case rel => exact ⟨i + 1, by have := HIK.out; omega, by go_num, hb2⟩
    · go_wp2
      go_ret
      exact .mk rfl bq1
end Go.Proofs.Ytimjhehagimcaaa
