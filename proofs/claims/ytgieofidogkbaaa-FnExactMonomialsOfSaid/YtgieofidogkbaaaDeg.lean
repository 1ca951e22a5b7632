/- The walks of the degree and of DegreeOf, IsHomogeneous; no condition. -/
import Derived.Test.YtgieofidogkbaaaLaws3
set_option linter.unusedVariables false
set_option linter.unusedSimpArgs false
namespace Go.Proofs.Ytgieofidogkbaaa
open Go.RowKit Go.Proofs.YtgieofidogkbaaaW.PrintWords
attribute [local go_sem] Later.cell Later.frozen Later.lt Later.lt_add Later.le Later.le_add Later.ne Later.ne' add_at

def degP (ts : List T4) : Int := if ts.length = 0 then -1 else degE (ts.getD (ts.length - 1) z4).e

set_option maxRecDepth 100000 in
theorem degreeP_c (p d : Int) (A : Option Addr) (c : Nat) (ts : List T4) (w : World) (hC : kT.C w A ts.length ts) (hn : ts.length ≤ 9223372036854775807) :
    Calls Try.prog 141 #[.agg #[.int .i64 p, .int .i64 d, .slice A ts.length c]] w (Gives (.int .i64 (degP ts)) w) := by
  by_cases h : ts.length = 0
  · have h0 : ((ts.length : Int) == 0) = true := by simpa using h
    have hr : degP ts = -1 := by simp [degP, h]
    rw [hr]
    clear h hr
    go_enter Try.func141, Try.ntmps141
    go_wp2
    go_ret
    exact .mk rfl (by repeat (first | (with_reducible exact Below.refl _ _) | ((with_reducible refine Below.alloc ?_ ?_ _); rotate_left; (focus (first | omega | (simp; done) | (simp; omega) | (simp [Later.le, Later.le_add, Later.lt, Later.lt_add]; done) | (simp [Later.le, Later.le_add, Later.lt, Later.lt_add]; omega)))) | ((with_reducible refine bel_later _ ?_ ?_); rotate_left; (focus (first | omega | (simp; done) | (simp; omega) | (simp [Later.le, Later.le_add, Later.lt, Later.lt_add]; done) | (simp [Later.le, Later.le_add, Later.lt, Later.lt_add]; omega)))) | (with_reducible refine Below.drew ?_) | (with_reducible refine pw_below_drewN ?_ _) | ((with_reducible refine Below.setCell ?_ ?_ _); rotate_left; (focus (first | omega | (simp; done) | (simp; omega) | (simp [Later.le, Later.le_add, Later.lt, Later.lt_add]; done) | (simp [Later.le, Later.le_add, Later.lt, Later.lt_add]; omega))))))
  · have h0 : ((ts.length : Int) == 0) = false := by simpa using h
    obtain ⟨b, o, hA, q0, q1, q2, q3⟩ := kT_at hC (ts.length - 1) (by omega) z4
    have hr : degP ts = degE (ts.getD (ts.length - 1) z4).e := by simp [degP, h]
    rw [hr]
    subst hA
    have hb : b < w.heap.size := World.block_lt_of_cell? w _ q0
    have hi0 : (0 : Int) ≤ (ts.length : Int) - 1 := by omega
    have hi1 : (ts.length : Int) - 1 < ts.length := by omega
    have hin : ((ts.length : Int) - 1).toNat = ts.length - 1 := by omega
    generalize ts.getD (ts.length - 1) z4 = t at *
    clear h hr
    go_enter Try.func141, Try.ntmps141
    go_wp2_with ((go_at_call 137; (first | (with_reducible refine call_later2 (degree_c _ _) ?_) | (with_reducible refine call_later (degree_c _ _) ?_)); intro x))
    go_ret
    exact .mk rfl (by repeat (first | (with_reducible exact Below.refl _ _) | ((with_reducible refine Below.alloc ?_ ?_ _); rotate_left; (focus (first | omega | (simp; done) | (simp; omega) | (simp [Later.le, Later.le_add, Later.lt, Later.lt_add]; done) | (simp [Later.le, Later.le_add, Later.lt, Later.lt_add]; omega)))) | ((with_reducible refine bel_later _ ?_ ?_); rotate_left; (focus (first | omega | (simp; done) | (simp; omega) | (simp [Later.le, Later.le_add, Later.lt, Later.lt_add]; done) | (simp [Later.le, Later.le_add, Later.lt, Later.lt_add]; omega)))) | (with_reducible refine Below.drew ?_) | (with_reducible refine pw_below_drewN ?_ _) | ((with_reducible refine Below.setCell ?_ ?_ _); rotate_left; (focus (first | omega | (simp; done) | (simp; omega) | (simp [Later.le, Later.le_add, Later.lt, Later.lt_add]; done) | (simp [Later.le, Later.le_add, Later.lt, Later.lt_add]; omega))))))

set_option maxRecDepth 100000 in
theorem l01Degree_c (p d : Int) (A : Option Addr) (c : Nat) (ts : List T4) (w : World) (hC : kT.C w A ts.length ts) (hn : ts.length ≤ 9223372036854775807) :
    Calls Try.prog 140 #[.agg #[.int .i64 p, .int .i64 d, .slice A ts.length c]] w (Gives (.int .i64 (degP ts)) w) := by
  by_cases h : ts.length = 0
  · have h0 : ((ts.length : Int) == 0) = true := by simpa using h
    have hr : degP ts = -1 := by simp [degP, h]
    rw [hr]
    clear h hr
    go_enter Try.func140, Try.ntmps140
    go_wp2
    go_ret
    exact .mk rfl (by repeat (first | (with_reducible exact Below.refl _ _) | ((with_reducible refine Below.alloc ?_ ?_ _); rotate_left; (focus (first | omega | (simp; done) | (simp; omega) | (simp [Later.le, Later.le_add, Later.lt, Later.lt_add]; done) | (simp [Later.le, Later.le_add, Later.lt, Later.lt_add]; omega)))) | ((with_reducible refine bel_later _ ?_ ?_); rotate_left; (focus (first | omega | (simp; done) | (simp; omega) | (simp [Later.le, Later.le_add, Later.lt, Later.lt_add]; done) | (simp [Later.le, Later.le_add, Later.lt, Later.lt_add]; omega)))) | (with_reducible refine Below.drew ?_) | (with_reducible refine pw_below_drewN ?_ _) | ((with_reducible refine Below.setCell ?_ ?_ _); rotate_left; (focus (first | omega | (simp; done) | (simp; omega) | (simp [Later.le, Later.le_add, Later.lt, Later.lt_add]; done) | (simp [Later.le, Later.le_add, Later.lt, Later.lt_add]; omega))))))
  · have h0 : ((ts.length : Int) == 0) = false := by simpa using h
    obtain ⟨b, o, hA, q0, q1, q2, q3⟩ := kT_at hC (ts.length - 1) (by omega) z4
    have hr : degP ts = degE (ts.getD (ts.length - 1) z4).e := by simp [degP, h]
    rw [hr]
    subst hA
    have hb : b < w.heap.size := World.block_lt_of_cell? w _ q0
    have hi0 : (0 : Int) ≤ (ts.length : Int) - 1 := by omega
    have hi1 : (ts.length : Int) - 1 < ts.length := by omega
    have hin : ((ts.length : Int) - 1).toNat = ts.length - 1 := by omega
    generalize ts.getD (ts.length - 1) z4 = t at *
    clear h hr
    go_enter Try.func140, Try.ntmps140
    go_wp2_with ((go_at_call 223; (first | (with_reducible refine call_later2 (l01Sum_c _ _) ?_) | (with_reducible refine call_later (l01Sum_c _ _) ?_)); intro x))
    go_ret
    exact .mk rfl (by repeat (first | (with_reducible exact Below.refl _ _) | ((with_reducible refine Below.alloc ?_ ?_ _); rotate_left; (focus (first | omega | (simp; done) | (simp; omega) | (simp [Later.le, Later.le_add, Later.lt, Later.lt_add]; done) | (simp [Later.le, Later.le_add, Later.lt, Later.lt_add]; omega)))) | ((with_reducible refine bel_later _ ?_ ?_); rotate_left; (focus (first | omega | (simp; done) | (simp; omega) | (simp [Later.le, Later.le_add, Later.lt, Later.lt_add]; done) | (simp [Later.le, Later.le_add, Later.lt, Later.lt_add]; omega)))) | (with_reducible refine Below.drew ?_) | (with_reducible refine pw_below_drewN ?_ _) | ((with_reducible refine Below.setCell ?_ ?_ _); rotate_left; (focus (first | omega | (simp; done) | (simp; omega) | (simp [Later.le, Later.le_add, Later.lt, Later.lt_add]; done) | (simp [Later.le, Later.le_add, Later.lt, Later.lt_add]; omega))))))

/-- What a function that first tells whether x is a polynomial hands back. -/
def ifP (p d : Int) (ts : List T4) (r : Int) : Int := if polyB p d ts then r else 0
def ifPB (p d : Int) (ts : List T4) (r : Bool) : Bool := if polyB p d ts then r else false
def codeP (p d : Int) (ts : List T4) : Int := if polyB p d ts then 0 else 1
theorem ifP_yes {p d : Int} {ts : List T4} (r : Int) (h : polyB p d ts = true) : ifP p d ts r = r := by simp [ifP, h]
theorem ifP_no {p d : Int} {ts : List T4} (r : Int) (h : polyB p d ts = false) : ifP p d ts r = 0 := by simp [ifP, h]
theorem ifPB_yes {p d : Int} {ts : List T4} (r : Bool) (h : polyB p d ts = true) : ifPB p d ts r = r := by simp [ifPB, h]
theorem ifPB_no {p d : Int} {ts : List T4} (r : Bool) (h : polyB p d ts = false) : ifPB p d ts r = false := by simp [ifPB, h]
theorem codeP_yes {p d : Int} {ts : List T4} (h : polyB p d ts = true) : codeP p d ts = 0 := by simp [codeP, h]
theorem codeP_no {p d : Int} {ts : List T4} (h : polyB p d ts = false) : codeP p d ts = 1 := by simp [codeP, h]

set_option maxRecDepth 100000 in
theorem implDegreeOf_c (p d : Int) (A : Option Addr) (c : Nat) (ts : List T4) (w : World) (hC : kT.C w A ts.length ts) (hn : ts.length ≤ 9223372036854775807) :
    Calls Try.prog 47 #[.agg #[.int .i64 p, .int .i64 d, .slice A ts.length c]] w (Gives (.tuple #[.int .i64 (ifP p d ts (degP ts)), .int .i64 (codeP p d ts)]) w) := by
  have HC := Lib.hid hC
  cases hp : polyB p d ts with
  | false =>
    rw [ifP_no _ hp, codeP_no hp]
    go_enter Try.func47, Try.ntmps47
    go_wp2_with ((go_at_call 44; (first | (with_reducible refine call_later2 (IsPoly_c _ _ _ _ _ _ ?hcc hn) ?_) | (with_reducible refine call_later (IsPoly_c _ _ _ _ _ _ ?hcc hn) ?_)); (case hcc => exact Kd.C_below HC.out (by repeat (first | (with_reducible exact Below.refl _ _) | ((with_reducible refine Below.alloc ?_ ?_ _); rotate_left; (focus (first | omega | (simp; done) | (simp; omega) | (simp [Later.le, Later.le_add, Later.lt, Later.lt_add]; done) | (simp [Later.le, Later.le_add, Later.lt, Later.lt_add]; omega)))) | ((with_reducible refine bel_later _ ?_ ?_); rotate_left; (focus (first | omega | (simp; done) | (simp; omega) | (simp [Later.le, Later.le_add, Later.lt, Later.lt_add]; done) | (simp [Later.le, Later.le_add, Later.lt, Later.lt_add]; omega)))) | (with_reducible refine Below.drew ?_) | (with_reducible refine pw_below_drewN ?_ _) | ((with_reducible refine Below.setCell ?_ ?_ _); rotate_left; (focus (first | omega | (simp; done) | (simp; omega) | (simp [Later.le, Later.le_add, Later.lt, Later.lt_add]; done) | (simp [Later.le, Later.le_add, Later.lt, Later.lt_add]; omega))))))); intro x))
    go_ret2
    exact .mk rfl (by repeat (first | (with_reducible exact Below.refl _ _) | ((with_reducible refine Below.alloc ?_ ?_ _); rotate_left; (focus (first | omega | (simp; done) | (simp; omega) | (simp [Later.le, Later.le_add, Later.lt, Later.lt_add]; done) | (simp [Later.le, Later.le_add, Later.lt, Later.lt_add]; omega)))) | ((with_reducible refine bel_later _ ?_ ?_); rotate_left; (focus (first | omega | (simp; done) | (simp; omega) | (simp [Later.le, Later.le_add, Later.lt, Later.lt_add]; done) | (simp [Later.le, Later.le_add, Later.lt, Later.lt_add]; omega)))) | (with_reducible refine Below.drew ?_) | (with_reducible refine pw_below_drewN ?_ _) | ((with_reducible refine Below.setCell ?_ ?_ _); rotate_left; (focus (first | omega | (simp; done) | (simp; omega) | (simp [Later.le, Later.le_add, Later.lt, Later.lt_add]; done) | (simp [Later.le, Later.le_add, Later.lt, Later.lt_add]; omega))))))
  | true =>
    rw [ifP_yes _ hp, codeP_yes hp]
    go_enter Try.func47, Try.ntmps47
    go_wp2_with (first | (go_at_call 44; (first | (with_reducible refine call_later2 (IsPoly_c _ _ _ _ _ _ ?hcc hn) ?_) | (with_reducible refine call_later (IsPoly_c _ _ _ _ _ _ ?hcc hn) ?_)); (case hcc => exact Kd.C_below HC.out (by repeat (first | (with_reducible exact Below.refl _ _) | ((with_reducible refine Below.alloc ?_ ?_ _); rotate_left; (focus (first | omega | (simp; done) | (simp; omega) | (simp [Later.le, Later.le_add, Later.lt, Later.lt_add]; done) | (simp [Later.le, Later.le_add, Later.lt, Later.lt_add]; omega)))) | ((with_reducible refine bel_later _ ?_ ?_); rotate_left; (focus (first | omega | (simp; done) | (simp; omega) | (simp [Later.le, Later.le_add, Later.lt, Later.lt_add]; done) | (simp [Later.le, Later.le_add, Later.lt, Later.lt_add]; omega)))) | (with_reducible refine Below.drew ?_) | (with_reducible refine pw_below_drewN ?_ _) | ((with_reducible refine Below.setCell ?_ ?_ _); rotate_left; (focus (first | omega | (simp; done) | (simp; omega) | (simp [Later.le, Later.le_add, Later.lt, Later.lt_add]; done) | (simp [Later.le, Later.le_add, Later.lt, Later.lt_add]; omega))))))); intro x) | (go_at_call 141; (first | (with_reducible refine call_later2 (degreeP_c _ _ _ _ _ _ ?hcc hn) ?_) | (with_reducible refine call_later (degreeP_c _ _ _ _ _ _ ?hcc hn) ?_)); (case hcc => exact Kd.C_below HC.out (by repeat (first | (with_reducible exact Below.refl _ _) | ((with_reducible refine Below.alloc ?_ ?_ _); rotate_left; (focus (first | omega | (simp; done) | (simp; omega) | (simp [Later.le, Later.le_add, Later.lt, Later.lt_add]; done) | (simp [Later.le, Later.le_add, Later.lt, Later.lt_add]; omega)))) | ((with_reducible refine bel_later _ ?_ ?_); rotate_left; (focus (first | omega | (simp; done) | (simp; omega) | (simp [Later.le, Later.le_add, Later.lt, Later.lt_add]; done) | (simp [Later.le, Later.le_add, Later.lt, Later.lt_add]; omega)))) | (with_reducible refine Below.drew ?_) | (with_reducible refine pw_below_drewN ?_ _) | ((with_reducible refine Below.setCell ?_ ?_ _); rotate_left; (focus (first | omega | (simp; done) | (simp; omega) | (simp [Later.le, Later.le_add, Later.lt, Later.lt_add]; done) | (simp [Later.le, Later.le_add, Later.lt, Later.lt_add]; omega))))))); intro x2))
    go_ret2
    exact .mk rfl (by repeat (first | (with_reducible exact Below.refl _ _) | ((with_reducible refine Below.alloc ?_ ?_ _); rotate_left; (focus (first | omega | (simp; done) | (simp; omega) | (simp [Later.le, Later.le_add, Later.lt, Later.lt_add]; done) | (simp [Later.le, Later.le_add, Later.lt, Later.lt_add]; omega)))) | ((with_reducible refine bel_later _ ?_ ?_); rotate_left; (focus (first | omega | (simp; done) | (simp; omega) | (simp [Later.le, Later.le_add, Later.lt, Later.lt_add]; done) | (simp [Later.le, Later.le_add, Later.lt, Later.lt_add]; omega)))) | (with_reducible refine Below.drew ?_) | (with_reducible refine pw_below_drewN ?_ _) | ((with_reducible refine Below.setCell ?_ ?_ _); rotate_left; (focus (first | omega | (simp; done) | (simp; omega) | (simp [Later.le, Later.le_add, Later.lt, Later.lt_add]; done) | (simp [Later.le, Later.le_add, Later.lt, Later.lt_add]; omega))))))

set_option maxRecDepth 100000 in
theorem specDegreeOf_c (p d : Int) (A : Option Addr) (c : Nat) (ts : List T4) (w : World) (hC : kT.C w A ts.length ts) (hn : ts.length ≤ 9223372036854775807) :
    Calls Try.prog 46 #[.agg #[.int .i64 p, .int .i64 d, .slice A ts.length c]] w (Gives (.tuple #[.int .i64 (ifP p d ts (degP ts)), .int .i64 (codeP p d ts)]) w) := by
  have HC := Lib.hid hC
  cases hp : polyB p d ts with
  | false =>
    rw [ifP_no _ hp, codeP_no hp]
    go_enter Try.func46, Try.ntmps46
    go_wp2_with ((go_at_call 135; (first | (with_reducible refine call_later2 (l01Is_c _ _ _ _ _ _ ?hcc hn) ?_) | (with_reducible refine call_later (l01Is_c _ _ _ _ _ _ ?hcc hn) ?_)); (case hcc => exact Kd.C_below HC.out (by repeat (first | (with_reducible exact Below.refl _ _) | ((with_reducible refine Below.alloc ?_ ?_ _); rotate_left; (focus (first | omega | (simp; done) | (simp; omega) | (simp [Later.le, Later.le_add, Later.lt, Later.lt_add]; done) | (simp [Later.le, Later.le_add, Later.lt, Later.lt_add]; omega)))) | ((with_reducible refine bel_later _ ?_ ?_); rotate_left; (focus (first | omega | (simp; done) | (simp; omega) | (simp [Later.le, Later.le_add, Later.lt, Later.lt_add]; done) | (simp [Later.le, Later.le_add, Later.lt, Later.lt_add]; omega)))) | (with_reducible refine Below.drew ?_) | (with_reducible refine pw_below_drewN ?_ _) | ((with_reducible refine Below.setCell ?_ ?_ _); rotate_left; (focus (first | omega | (simp; done) | (simp; omega) | (simp [Later.le, Later.le_add, Later.lt, Later.lt_add]; done) | (simp [Later.le, Later.le_add, Later.lt, Later.lt_add]; omega))))))); intro x))
    go_ret2
    exact .mk rfl (by repeat (first | (with_reducible exact Below.refl _ _) | ((with_reducible refine Below.alloc ?_ ?_ _); rotate_left; (focus (first | omega | (simp; done) | (simp; omega) | (simp [Later.le, Later.le_add, Later.lt, Later.lt_add]; done) | (simp [Later.le, Later.le_add, Later.lt, Later.lt_add]; omega)))) | ((with_reducible refine bel_later _ ?_ ?_); rotate_left; (focus (first | omega | (simp; done) | (simp; omega) | (simp [Later.le, Later.le_add, Later.lt, Later.lt_add]; done) | (simp [Later.le, Later.le_add, Later.lt, Later.lt_add]; omega)))) | (with_reducible refine Below.drew ?_) | (with_reducible refine pw_below_drewN ?_ _) | ((with_reducible refine Below.setCell ?_ ?_ _); rotate_left; (focus (first | omega | (simp; done) | (simp; omega) | (simp [Later.le, Later.le_add, Later.lt, Later.lt_add]; done) | (simp [Later.le, Later.le_add, Later.lt, Later.lt_add]; omega))))))
  | true =>
    rw [ifP_yes _ hp, codeP_yes hp]
    go_enter Try.func46, Try.ntmps46
    go_wp2_with (first | (go_at_call 135; (first | (with_reducible refine call_later2 (l01Is_c _ _ _ _ _ _ ?hcc hn) ?_) | (with_reducible refine call_later (l01Is_c _ _ _ _ _ _ ?hcc hn) ?_)); (case hcc => exact Kd.C_below HC.out (by repeat (first | (with_reducible exact Below.refl _ _) | ((with_reducible refine Below.alloc ?_ ?_ _); rotate_left; (focus (first | omega | (simp; done) | (simp; omega) | (simp [Later.le, Later.le_add, Later.lt, Later.lt_add]; done) | (simp [Later.le, Later.le_add, Later.lt, Later.lt_add]; omega)))) | ((with_reducible refine bel_later _ ?_ ?_); rotate_left; (focus (first | omega | (simp; done) | (simp; omega) | (simp [Later.le, Later.le_add, Later.lt, Later.lt_add]; done) | (simp [Later.le, Later.le_add, Later.lt, Later.lt_add]; omega)))) | (with_reducible refine Below.drew ?_) | (with_reducible refine pw_below_drewN ?_ _) | ((with_reducible refine Below.setCell ?_ ?_ _); rotate_left; (focus (first | omega | (simp; done) | (simp; omega) | (simp [Later.le, Later.le_add, Later.lt, Later.lt_add]; done) | (simp [Later.le, Later.le_add, Later.lt, Later.lt_add]; omega))))))); intro x) | (go_at_call 140; (first | (with_reducible refine call_later2 (l01Degree_c _ _ _ _ _ _ ?hcc hn) ?_) | (with_reducible refine call_later (l01Degree_c _ _ _ _ _ _ ?hcc hn) ?_)); (case hcc => exact Kd.C_below HC.out (by repeat (first | (with_reducible exact Below.refl _ _) | ((with_reducible refine Below.alloc ?_ ?_ _); rotate_left; (focus (first | omega | (simp; done) | (simp; omega) | (simp [Later.le, Later.le_add, Later.lt, Later.lt_add]; done) | (simp [Later.le, Later.le_add, Later.lt, Later.lt_add]; omega)))) | ((with_reducible refine bel_later _ ?_ ?_); rotate_left; (focus (first | omega | (simp; done) | (simp; omega) | (simp [Later.le, Later.le_add, Later.lt, Later.lt_add]; done) | (simp [Later.le, Later.le_add, Later.lt, Later.lt_add]; omega)))) | (with_reducible refine Below.drew ?_) | (with_reducible refine pw_below_drewN ?_ _) | ((with_reducible refine Below.setCell ?_ ?_ _); rotate_left; (focus (first | omega | (simp; done) | (simp; omega) | (simp [Later.le, Later.le_add, Later.lt, Later.lt_add]; done) | (simp [Later.le, Later.le_add, Later.lt, Later.lt_add]; omega))))))); intro x2))
    go_ret2
    exact .mk rfl (by repeat (first | (with_reducible exact Below.refl _ _) | ((with_reducible refine Below.alloc ?_ ?_ _); rotate_left; (focus (first | omega | (simp; done) | (simp; omega) | (simp [Later.le, Later.le_add, Later.lt, Later.lt_add]; done) | (simp [Later.le, Later.le_add, Later.lt, Later.lt_add]; omega)))) | ((with_reducible refine bel_later _ ?_ ?_); rotate_left; (focus (first | omega | (simp; done) | (simp; omega) | (simp [Later.le, Later.le_add, Later.lt, Later.lt_add]; done) | (simp [Later.le, Later.le_add, Later.lt, Later.lt_add]; omega)))) | (with_reducible refine Below.drew ?_) | (with_reducible refine pw_below_drewN ?_ _) | ((with_reducible refine Below.setCell ?_ ?_ _); rotate_left; (focus (first | omega | (simp; done) | (simp; omega) | (simp [Later.le, Later.le_add, Later.lt, Later.lt_add]; done) | (simp [Later.le, Later.le_add, Later.lt, Later.lt_add]; omega))))))

/-! ### IsHomogeneous -/
def homP (ts : List T4) : Bool := ts.length == 0 || degE (ts.getD 0 z4).e == degP ts
theorem degP_bd (ts : List T4) : -1 ≤ degP ts ∧ degP ts < 768 := by
  unfold degP
  split
  · omega
  · have := degE_bd (ts.getD (ts.length - 1) z4).e
    omega

theorem isZero_c (p d : Int) (A : Option Addr) (n c : Nat) (w : World) (hn : n ≤ 9223372036854775807) :
    Calls Try.prog 196 #[.agg #[.int .i64 p, .int .i64 d, .slice A n c]] w (Gives (.bool (n == 0)) w) := by
  by_cases h : n = 0
  · subst h
    go_enter Try.func196, Try.ntmps196
    go_wp2
    go_ret
    exact .mk rfl (by repeat (first | (with_reducible exact Below.refl _ _) | ((with_reducible refine Below.alloc ?_ ?_ _); rotate_left; (focus (first | omega | (simp; done) | (simp; omega) | (simp [Later.le, Later.le_add, Later.lt, Later.lt_add]; done) | (simp [Later.le, Later.le_add, Later.lt, Later.lt_add]; omega)))) | ((with_reducible refine bel_later _ ?_ ?_); rotate_left; (focus (first | omega | (simp; done) | (simp; omega) | (simp [Later.le, Later.le_add, Later.lt, Later.lt_add]; done) | (simp [Later.le, Later.le_add, Later.lt, Later.lt_add]; omega)))) | (with_reducible refine Below.drew ?_) | (with_reducible refine pw_below_drewN ?_ _) | ((with_reducible refine Below.setCell ?_ ?_ _); rotate_left; (focus (first | omega | (simp; done) | (simp; omega) | (simp [Later.le, Later.le_add, Later.lt, Later.lt_add]; done) | (simp [Later.le, Later.le_add, Later.lt, Later.lt_add]; omega))))))
  · have h0 : ((n : Int) == 0) = false := by simpa using h
    have h1 : (n == 0) = false := by simpa using h
    have HH := Lib.hid h1
    clear h h1
    go_enter Try.func196, Try.ntmps196
    go_wp2
    go_ret
    exact .mk (by rw [HH.out]; rfl) (by repeat (first | (with_reducible exact Below.refl _ _) | ((with_reducible refine Below.alloc ?_ ?_ _); rotate_left; (focus (first | omega | (simp; done) | (simp; omega) | (simp [Later.le, Later.le_add, Later.lt, Later.lt_add]; done) | (simp [Later.le, Later.le_add, Later.lt, Later.lt_add]; omega)))) | ((with_reducible refine bel_later _ ?_ ?_); rotate_left; (focus (first | omega | (simp; done) | (simp; omega) | (simp [Later.le, Later.le_add, Later.lt, Later.lt_add]; done) | (simp [Later.le, Later.le_add, Later.lt, Later.lt_add]; omega)))) | (with_reducible refine Below.drew ?_) | (with_reducible refine pw_below_drewN ?_ _) | ((with_reducible refine Below.setCell ?_ ?_ _); rotate_left; (focus (first | omega | (simp; done) | (simp; omega) | (simp [Later.le, Later.le_add, Later.lt, Later.lt_add]; done) | (simp [Later.le, Later.le_add, Later.lt, Later.lt_add]; omega))))))

theorem isZero_b (p d : Int) (A : Option Addr) (n c : Nat) (w : World) (hn : n ≤ 9223372036854775807) {b : Bool} (hb : (n == 0) = b) :
    Calls Try.prog 196 #[.agg #[.int .i64 p, .int .i64 d, .slice A n c]] w (Gives (.bool b) w) := hb ▸ isZero_c p d A n c w hn

set_option maxRecDepth 100000 in
theorem homogeneous_c (p d : Int) (A : Option Addr) (c : Nat) (ts : List T4) (w : World) (hC : kT.C w A ts.length ts) (hn : ts.length ≤ 9223372036854775807) :
    Calls Try.prog 143 #[.agg #[.int .i64 p, .int .i64 d, .slice A ts.length c]] w (Gives (.bool (homP ts)) w) := by
  have HC := Lib.hid hC
  cases h0 : (ts.length == 0) with
  | true =>
    have hr : homP ts = true := by simp [homP, h0]
    rw [hr]
    clear hr
    go_enter Try.func143, Try.ntmps143
    go_wp2
    (first | refine wp_region_later2 (by kernel_rfl) (by kernel_rfl) ?_ | refine wp_region_later (by kernel_rfl) (by kernel_rfl) ?_); (repeat (go_big_quiet_step ((first | (go_at_call 196; with_reducible exact quiet_later (isZero_b _ _ _ _ _ _ hn h0)))))); refine wpQuiet_nil ?_; intro x
    go_wp2
    go_ret
    exact .mk rfl (by repeat (first | (with_reducible exact Below.refl _ _) | ((with_reducible refine Below.alloc ?_ ?_ _); rotate_left; (focus (first | omega | (simp; done) | (simp; omega) | (simp [Later.le, Later.le_add, Later.lt, Later.lt_add]; done) | (simp [Later.le, Later.le_add, Later.lt, Later.lt_add]; omega)))) | ((with_reducible refine bel_later _ ?_ ?_); rotate_left; (focus (first | omega | (simp; done) | (simp; omega) | (simp [Later.le, Later.le_add, Later.lt, Later.lt_add]; done) | (simp [Later.le, Later.le_add, Later.lt, Later.lt_add]; omega)))) | (with_reducible refine Below.drew ?_) | (with_reducible refine pw_below_drewN ?_ _) | ((with_reducible refine Below.setCell ?_ ?_ _); rotate_left; (focus (first | omega | (simp; done) | (simp; omega) | (simp [Later.le, Later.le_add, Later.lt, Later.lt_add]; done) | (simp [Later.le, Later.le_add, Later.lt, Later.lt_add]; omega))))))
  | false =>
    have hl : ts.length ≠ 0 := by simpa using h0
    obtain ⟨b, o, hA, q0, q1, q2, q3⟩ := kT_at hC 0 (by omega) z4
    have hr : homP ts = (degE (ts.getD 0 z4).e == degP ts) := by simp [homP, h0]
    rw [hr]
    subst hA
    have hb : b < w.heap.size := World.block_lt_of_cell? w _ q0
    have hi1 : (0 : Int) < ts.length := by omega
    have hi2 : 0 < ts.length := by omega
    generalize ts.getD 0 z4 = t at *
    obtain ⟨d1, d2⟩ := degP_bd ts
    obtain ⟨d3, d4⟩ := degE_bd t.e
    simp only [Nat.zero_mul, Nat.add_zero] at q0 q1 q2 q3
    clear hr
    go_enter Try.func143, Try.ntmps143
    go_wp2
    have HC2 : ∀ x : Later (w.alloc (.cells #[.int .i64 p, .int .i64 d, .slice (some ⟨b, o, none⟩) ts.length c] 41)), Hid (kT.C x.W (some ⟨b, o, none⟩) ts.length ts) := fun x => Lib.hid (Kd.C_below HC.out (bel_later x ((Below.refl _ _).alloc (Nat.le_refl _) _) (by simp)))
    (first | refine wp_region_later2 (by kernel_rfl) (by kernel_rfl) ?_ | refine wp_region_later (by kernel_rfl) (by kernel_rfl) ?_); (repeat (go_big_quiet_step ((first | (go_at_call 196; with_reducible exact quiet_later (isZero_b _ _ _ _ _ _ hn h0)) | (go_at_call 137; with_reducible exact quiet_later (degree_c _ _)) | (go_at_call 141; with_reducible exact quiet_later (degreeP_c _ _ _ _ _ _ (HC2 _).out hn)))))); refine wpQuiet_nil ?_; intro x
    go_wp2
    go_ret
    exact .mk rfl (by repeat (first | (with_reducible exact Below.refl _ _) | ((with_reducible refine Below.alloc ?_ ?_ _); rotate_left; (focus (first | omega | (simp; done) | (simp; omega) | (simp [Later.le, Later.le_add, Later.lt, Later.lt_add]; done) | (simp [Later.le, Later.le_add, Later.lt, Later.lt_add]; omega)))) | ((with_reducible refine bel_later _ ?_ ?_); rotate_left; (focus (first | omega | (simp; done) | (simp; omega) | (simp [Later.le, Later.le_add, Later.lt, Later.lt_add]; done) | (simp [Later.le, Later.le_add, Later.lt, Later.lt_add]; omega)))) | (with_reducible refine Below.drew ?_) | (with_reducible refine pw_below_drewN ?_ _) | ((with_reducible refine Below.setCell ?_ ?_ _); rotate_left; (focus (first | omega | (simp; done) | (simp; omega) | (simp [Later.le, Later.le_add, Later.lt, Later.lt_add]; done) | (simp [Later.le, Later.le_add, Later.lt, Later.lt_add]; omega))))))

set_option maxRecDepth 100000 in
theorem l01Even_c (p d : Int) (A : Option Addr) (c : Nat) (ts : List T4) (w : World) (hC : kT.C w A ts.length ts) (hn : ts.length ≤ 9223372036854775807) :
    Calls Try.prog 142 #[.agg #[.int .i64 p, .int .i64 d, .slice A ts.length c]] w (Gives (.bool (homP ts)) w) := by
  have HC := Lib.hid hC
  cases h0 : (ts.length == 0) with
  | true =>
    have hr : homP ts = true := by simp [homP, h0]
    have h1 : ((ts.length : Int) == 0) = true := by simpa using h0
    rw [hr]
    clear hr
    go_enter Try.func142, Try.ntmps142
    go_wp2
    (first | refine wp_region_later2 (by kernel_rfl) (by kernel_rfl) ?_ | refine wp_region_later (by kernel_rfl) (by kernel_rfl) ?_); (repeat (go_big_quiet_step (fail))); refine wpQuiet_nil ?_; intro x
    go_wp2
    go_ret
    exact .mk rfl (by repeat (first | (with_reducible exact Below.refl _ _) | ((with_reducible refine Below.alloc ?_ ?_ _); rotate_left; (focus (first | omega | (simp; done) | (simp; omega) | (simp [Later.le, Later.le_add, Later.lt, Later.lt_add]; done) | (simp [Later.le, Later.le_add, Later.lt, Later.lt_add]; omega)))) | ((with_reducible refine bel_later _ ?_ ?_); rotate_left; (focus (first | omega | (simp; done) | (simp; omega) | (simp [Later.le, Later.le_add, Later.lt, Later.lt_add]; done) | (simp [Later.le, Later.le_add, Later.lt, Later.lt_add]; omega)))) | (with_reducible refine Below.drew ?_) | (with_reducible refine pw_below_drewN ?_ _) | ((with_reducible refine Below.setCell ?_ ?_ _); rotate_left; (focus (first | omega | (simp; done) | (simp; omega) | (simp [Later.le, Later.le_add, Later.lt, Later.lt_add]; done) | (simp [Later.le, Later.le_add, Later.lt, Later.lt_add]; omega))))))
  | false =>
    have hl : ts.length ≠ 0 := by simpa using h0
    have h1 : ((ts.length : Int) == 0) = false := by simpa using h0
    obtain ⟨b, o, hA, q0, q1, q2, q3⟩ := kT_at hC 0 (by omega) z4
    have hr : homP ts = (degE (ts.getD 0 z4).e == degP ts) := by simp [homP, h0]
    rw [hr]
    subst hA
    have hb : b < w.heap.size := World.block_lt_of_cell? w _ q0
    have hi1 : (0 : Int) < ts.length := by omega
    have hi2 : 0 < ts.length := by omega
    generalize ts.getD 0 z4 = t at *
    obtain ⟨d1, d2⟩ := degP_bd ts
    obtain ⟨d3, d4⟩ := degE_bd t.e
    simp only [Nat.zero_mul, Nat.add_zero] at q0 q1 q2 q3
    clear hr
    go_enter Try.func142, Try.ntmps142
    go_wp2
    have HC2 : ∀ x : Later (w.alloc (.cells #[.int .i64 p, .int .i64 d, .slice (some ⟨b, o, none⟩) ts.length c] 41)), Hid (kT.C x.W (some ⟨b, o, none⟩) ts.length ts) := fun x => Lib.hid (Kd.C_below HC.out (bel_later x ((Below.refl _ _).alloc (Nat.le_refl _) _) (by simp)))
    (first | refine wp_region_later2 (by kernel_rfl) (by kernel_rfl) ?_ | refine wp_region_later (by kernel_rfl) (by kernel_rfl) ?_); (repeat (go_big_quiet_step ((first | (go_at_call 223; with_reducible exact quiet_later (l01Sum_c _ _)) | (go_at_call 140; with_reducible exact quiet_later (l01Degree_c _ _ _ _ _ _ (HC2 _).out hn)))))); refine wpQuiet_nil ?_; intro x
    go_wp2
    go_ret
    exact .mk rfl (by repeat (first | (with_reducible exact Below.refl _ _) | ((with_reducible refine Below.alloc ?_ ?_ _); rotate_left; (focus (first | omega | (simp; done) | (simp; omega) | (simp [Later.le, Later.le_add, Later.lt, Later.lt_add]; done) | (simp [Later.le, Later.le_add, Later.lt, Later.lt_add]; omega)))) | ((with_reducible refine bel_later _ ?_ ?_); rotate_left; (focus (first | omega | (simp; done) | (simp; omega) | (simp [Later.le, Later.le_add, Later.lt, Later.lt_add]; done) | (simp [Later.le, Later.le_add, Later.lt, Later.lt_add]; omega)))) | (with_reducible refine Below.drew ?_) | (with_reducible refine pw_below_drewN ?_ _) | ((with_reducible refine Below.setCell ?_ ?_ _); rotate_left; (focus (first | omega | (simp; done) | (simp; omega) | (simp [Later.le, Later.le_add, Later.lt, Later.lt_add]; done) | (simp [Later.le, Later.le_add, Later.lt, Later.lt_add]; omega))))))

set_option maxRecDepth 100000 in
theorem implIsHomogeneous_c (p d : Int) (A : Option Addr) (c : Nat) (ts : List T4) (w : World) (hC : kT.C w A ts.length ts) (hn : ts.length ≤ 9223372036854775807) :
    Calls Try.prog 49 #[.agg #[.int .i64 p, .int .i64 d, .slice A ts.length c]] w (Gives (.tuple #[.bool (ifPB p d ts (homP ts)), .int .i64 (codeP p d ts)]) w) := by
  have HC := Lib.hid hC
  cases hp : polyB p d ts with
  | false =>
    rw [ifPB_no _ hp, codeP_no hp]
    go_enter Try.func49, Try.ntmps49
    go_wp2_with ((go_at_call 44; (first | (with_reducible refine call_later2 (IsPoly_c _ _ _ _ _ _ ?hcc hn) ?_) | (with_reducible refine call_later (IsPoly_c _ _ _ _ _ _ ?hcc hn) ?_)); (case hcc => exact Kd.C_below HC.out (by repeat (first | (with_reducible exact Below.refl _ _) | ((with_reducible refine Below.alloc ?_ ?_ _); rotate_left; (focus (first | omega | (simp; done) | (simp; omega) | (simp [Later.le, Later.le_add, Later.lt, Later.lt_add]; done) | (simp [Later.le, Later.le_add, Later.lt, Later.lt_add]; omega)))) | ((with_reducible refine bel_later _ ?_ ?_); rotate_left; (focus (first | omega | (simp; done) | (simp; omega) | (simp [Later.le, Later.le_add, Later.lt, Later.lt_add]; done) | (simp [Later.le, Later.le_add, Later.lt, Later.lt_add]; omega)))) | (with_reducible refine Below.drew ?_) | (with_reducible refine pw_below_drewN ?_ _) | ((with_reducible refine Below.setCell ?_ ?_ _); rotate_left; (focus (first | omega | (simp; done) | (simp; omega) | (simp [Later.le, Later.le_add, Later.lt, Later.lt_add]; done) | (simp [Later.le, Later.le_add, Later.lt, Later.lt_add]; omega))))))); intro x))
    go_ret2
    exact .mk rfl (by repeat (first | (with_reducible exact Below.refl _ _) | ((with_reducible refine Below.alloc ?_ ?_ _); rotate_left; (focus (first | omega | (simp; done) | (simp; omega) | (simp [Later.le, Later.le_add, Later.lt, Later.lt_add]; done) | (simp [Later.le, Later.le_add, Later.lt, Later.lt_add]; omega)))) | ((with_reducible refine bel_later _ ?_ ?_); rotate_left; (focus (first | omega | (simp; done) | (simp; omega) | (simp [Later.le, Later.le_add, Later.lt, Later.lt_add]; done) | (simp [Later.le, Later.le_add, Later.lt, Later.lt_add]; omega)))) | (with_reducible refine Below.drew ?_) | (with_reducible refine pw_below_drewN ?_ _) | ((with_reducible refine Below.setCell ?_ ?_ _); rotate_left; (focus (first | omega | (simp; done) | (simp; omega) | (simp [Later.le, Later.le_add, Later.lt, Later.lt_add]; done) | (simp [Later.le, Later.le_add, Later.lt, Later.lt_add]; omega))))))
  | true =>
    rw [ifPB_yes _ hp, codeP_yes hp]
    go_enter Try.func49, Try.ntmps49
    go_wp2_with (first | (go_at_call 44; (first | (with_reducible refine call_later2 (IsPoly_c _ _ _ _ _ _ ?hcc hn) ?_) | (with_reducible refine call_later (IsPoly_c _ _ _ _ _ _ ?hcc hn) ?_)); (case hcc => exact Kd.C_below HC.out (by repeat (first | (with_reducible exact Below.refl _ _) | ((with_reducible refine Below.alloc ?_ ?_ _); rotate_left; (focus (first | omega | (simp; done) | (simp; omega) | (simp [Later.le, Later.le_add, Later.lt, Later.lt_add]; done) | (simp [Later.le, Later.le_add, Later.lt, Later.lt_add]; omega)))) | ((with_reducible refine bel_later _ ?_ ?_); rotate_left; (focus (first | omega | (simp; done) | (simp; omega) | (simp [Later.le, Later.le_add, Later.lt, Later.lt_add]; done) | (simp [Later.le, Later.le_add, Later.lt, Later.lt_add]; omega)))) | (with_reducible refine Below.drew ?_) | (with_reducible refine pw_below_drewN ?_ _) | ((with_reducible refine Below.setCell ?_ ?_ _); rotate_left; (focus (first | omega | (simp; done) | (simp; omega) | (simp [Later.le, Later.le_add, Later.lt, Later.lt_add]; done) | (simp [Later.le, Later.le_add, Later.lt, Later.lt_add]; omega))))))); intro x) | (go_at_call 143; (first | (with_reducible refine call_later2 (homogeneous_c _ _ _ _ _ _ ?hcc hn) ?_) | (with_reducible refine call_later (homogeneous_c _ _ _ _ _ _ ?hcc hn) ?_)); (case hcc => exact Kd.C_below HC.out (by repeat (first | (with_reducible exact Below.refl _ _) | ((with_reducible refine Below.alloc ?_ ?_ _); rotate_left; (focus (first | omega | (simp; done) | (simp; omega) | (simp [Later.le, Later.le_add, Later.lt, Later.lt_add]; done) | (simp [Later.le, Later.le_add, Later.lt, Later.lt_add]; omega)))) | ((with_reducible refine bel_later _ ?_ ?_); rotate_left; (focus (first | omega | (simp; done) | (simp; omega) | (simp [Later.le, Later.le_add, Later.lt, Later.lt_add]; done) | (simp [Later.le, Later.le_add, Later.lt, Later.lt_add]; omega)))) | (with_reducible refine Below.drew ?_) | (with_reducible refine pw_below_drewN ?_ _) | ((with_reducible refine Below.setCell ?_ ?_ _); rotate_left; (focus (first | omega | (simp; done) | (simp; omega) | (simp [Later.le, Later.le_add, Later.lt, Later.lt_add]; done) | (simp [Later.le, Later.le_add, Later.lt, Later.lt_add]; omega))))))); intro x2))
    go_ret2
    exact .mk rfl (by repeat (first | (with_reducible exact Below.refl _ _) | ((with_reducible refine Below.alloc ?_ ?_ _); rotate_left; (focus (first | omega | (simp; done) | (simp; omega) | (simp [Later.le, Later.le_add, Later.lt, Later.lt_add]; done) | (simp [Later.le, Later.le_add, Later.lt, Later.lt_add]; omega)))) | ((with_reducible refine bel_later _ ?_ ?_); rotate_left; (focus (first | omega | (simp; done) | (simp; omega) | (simp [Later.le, Later.le_add, Later.lt, Later.lt_add]; done) | (simp [Later.le, Later.le_add, Later.lt, Later.lt_add]; omega)))) | (with_reducible refine Below.drew ?_) | (with_reducible refine pw_below_drewN ?_ _) | ((with_reducible refine Below.setCell ?_ ?_ _); rotate_left; (focus (first | omega | (simp; done) | (simp; omega) | (simp [Later.le, Later.le_add, Later.lt, Later.lt_add]; done) | (simp [Later.le, Later.le_add, Later.lt, Later.lt_add]; omega))))))

set_option maxRecDepth 100000 in
theorem specIsHomogeneous_c (p d : Int) (A : Option Addr) (c : Nat) (ts : List T4) (w : World) (hC : kT.C w A ts.length ts) (hn : ts.length ≤ 9223372036854775807) :
    Calls Try.prog 48 #[.agg #[.int .i64 p, .int .i64 d, .slice A ts.length c]] w (Gives (.tuple #[.bool (ifPB p d ts (homP ts)), .int .i64 (codeP p d ts)]) w) := by
  have HC := Lib.hid hC
  cases hp : polyB p d ts with
  | false =>
    rw [ifPB_no _ hp, codeP_no hp]
    go_enter Try.func48, Try.ntmps48
    go_wp2_with ((go_at_call 135; (first | (with_reducible refine call_later2 (l01Is_c _ _ _ _ _ _ ?hcc hn) ?_) | (with_reducible refine call_later (l01Is_c _ _ _ _ _ _ ?hcc hn) ?_)); (case hcc => exact Kd.C_below HC.out (by repeat (first | (with_reducible exact Below.refl _ _) | ((with_reducible refine Below.alloc ?_ ?_ _); rotate_left; (focus (first | omega | (simp; done) | (simp; omega) | (simp [Later.le, Later.le_add, Later.lt, Later.lt_add]; done) | (simp [Later.le, Later.le_add, Later.lt, Later.lt_add]; omega)))) | ((with_reducible refine bel_later _ ?_ ?_); rotate_left; (focus (first | omega | (simp; done) | (simp; omega) | (simp [Later.le, Later.le_add, Later.lt, Later.lt_add]; done) | (simp [Later.le, Later.le_add, Later.lt, Later.lt_add]; omega)))) | (with_reducible refine Below.drew ?_) | (with_reducible refine pw_below_drewN ?_ _) | ((with_reducible refine Below.setCell ?_ ?_ _); rotate_left; (focus (first | omega | (simp; done) | (simp; omega) | (simp [Later.le, Later.le_add, Later.lt, Later.lt_add]; done) | (simp [Later.le, Later.le_add, Later.lt, Later.lt_add]; omega))))))); intro x))
    go_ret2
    exact .mk rfl (by repeat (first | (with_reducible exact Below.refl _ _) | ((with_reducible refine Below.alloc ?_ ?_ _); rotate_left; (focus (first | omega | (simp; done) | (simp; omega) | (simp [Later.le, Later.le_add, Later.lt, Later.lt_add]; done) | (simp [Later.le, Later.le_add, Later.lt, Later.lt_add]; omega)))) | ((with_reducible refine bel_later _ ?_ ?_); rotate_left; (focus (first | omega | (simp; done) | (simp; omega) | (simp [Later.le, Later.le_add, Later.lt, Later.lt_add]; done) | (simp [Later.le, Later.le_add, Later.lt, Later.lt_add]; omega)))) | (with_reducible refine Below.drew ?_) | (with_reducible refine pw_below_drewN ?_ _) | ((with_reducible refine Below.setCell ?_ ?_ _); rotate_left; (focus (first | omega | (simp; done) | (simp; omega) | (simp [Later.le, Later.le_add, Later.lt, Later.lt_add]; done) | (simp [Later.le, Later.le_add, Later.lt, Later.lt_add]; omega))))))
  | true =>
    rw [ifPB_yes _ hp, codeP_yes hp]
    go_enter Try.func48, Try.ntmps48
    go_wp2_with (first | (go_at_call 135; (first | (with_reducible refine call_later2 (l01Is_c _ _ _ _ _ _ ?hcc hn) ?_) | (with_reducible refine call_later (l01Is_c _ _ _ _ _ _ ?hcc hn) ?_)); (case hcc => exact Kd.C_below HC.out (by repeat (first | (with_reducible exact Below.refl _ _) | ((with_reducible refine Below.alloc ?_ ?_ _); rotate_left; (focus (first | omega | (simp; done) | (simp; omega) | (simp [Later.le, Later.le_add, Later.lt, Later.lt_add]; done) | (simp [Later.le, Later.le_add, Later.lt, Later.lt_add]; omega)))) | ((with_reducible refine bel_later _ ?_ ?_); rotate_left; (focus (first | omega | (simp; done) | (simp; omega) | (simp [Later.le, Later.le_add, Later.lt, Later.lt_add]; done) | (simp [Later.le, Later.le_add, Later.lt, Later.lt_add]; omega)))) | (with_reducible refine Below.drew ?_) | (with_reducible refine pw_below_drewN ?_ _) | ((with_reducible refine Below.setCell ?_ ?_ _); rotate_left; (focus (first | omega | (simp; done) | (simp; omega) | (simp [Later.le, Later.le_add, Later.lt, Later.lt_add]; done) | (simp [Later.le, Later.le_add, Later.lt, Later.lt_add]; omega))))))); intro x) | (go_at_call 142; (first | (with_reducible refine call_later2 (l01Even_c _ _ _ _ _ _ ?hcc hn) ?_) | (with_reducible refine call_later (l01Even_c _ _ _ _ _ _ ?hcc hn) ?_)); (case hcc => exact Kd.C_below HC.out (by repeat (first | (with_reducible exact Below.refl _ _) | ((with_reducible refine Below.alloc ?_ ?_ _); rotate_left; (focus (first | omega | (simp; done) | (simp; omega) | (simp [Later.le, Later.le_add, Later.lt, Later.lt_add]; done) | (simp [Later.le, Later.le_add, Later.lt, Later.lt_add]; omega)))) | ((with_reducible refine bel_later _ ?_ ?_); rotate_left; (focus (first | omega | (simp; done) | (simp; omega) | (simp [Later.le, Later.le_add, Later.lt, Later.lt_add]; done) | (simp [Later.le, Later.le_add, Later.lt, Later.lt_add]; omega)))) | (with_reducible refine Below.drew ?_) | (with_reducible refine pw_below_drewN ?_ _) | ((with_reducible refine Below.setCell ?_ ?_ _); rotate_left; (focus (first | omega | (simp; done) | (simp; omega) | (simp [Later.le, Later.le_add, Later.lt, Later.lt_add]; done) | (simp [Later.le, Later.le_add, Later.lt, Later.lt_add]; omega))))))); intro x2))
    go_ret2
    exact .mk rfl (by repeat (first | (with_reducible exact Below.refl _ _) | ((with_reducible refine Below.alloc ?_ ?_ _); rotate_left; (focus (first | omega | (simp; done) | (simp; omega) | (simp [Later.le, Later.le_add, Later.lt, Later.lt_add]; done) | (simp [Later.le, Later.le_add, Later.lt, Later.lt_add]; omega)))) | ((with_reducible refine bel_later _ ?_ ?_); rotate_left; (focus (first | omega | (simp; done) | (simp; omega) | (simp [Later.le, Later.le_add, Later.lt, Later.lt_add]; done) | (simp [Later.le, Later.le_add, Later.lt, Later.lt_add]; omega)))) | (with_reducible refine Below.drew ?_) | (with_reducible refine pw_below_drewN ?_ _) | ((with_reducible refine Below.setCell ?_ ?_ _); rotate_left; (focus (first | omega | (simp; done) | (simp; omega) | (simp [Later.le, Later.le_add, Later.lt, Later.lt_add]; done) | (simp [Later.le, Later.le_add, Later.lt, Later.lt_add]; omega))))))
end Go.Proofs.Ytgieofidogkbaaa
