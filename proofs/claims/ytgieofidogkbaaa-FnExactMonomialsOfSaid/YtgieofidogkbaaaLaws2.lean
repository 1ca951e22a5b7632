/- The walks of the laws' own functions on lists of terms and on polynomials; no condition. -/
import Derived.Test.YtgieofidogkbaaaLaws1
set_option linter.unusedVariables false
set_option linter.unusedSimpArgs false
namespace Go.Proofs.Ytgieofidogkbaaa
open Go.RowKit Go.Proofs.YtgieofidogkbaaaW.PrintWords
attribute [local go_sem] Later.cell Later.frozen Later.lt Later.lt_add Later.le Later.le_add Later.ne Later.ne' add_at


set_option maxRecDepth 100000 in
theorem eqTerm_c (t s : T4) (w : World) : Calls Try.prog 222 #[.agg #[.int .u8 (t.e.a.toNat : Int), .int .u8 (t.e.b.toNat : Int), .int .u8 (t.e.c.toNat : Int), .int .i64 t.v], .agg #[.int .u8 (s.e.a.toNat : Int), .int .u8 (s.e.b.toNat : Int), .int .u8 (s.e.c.toNat : Int), .int .i64 s.v]] w (Gives (.bool (t == s)) w) := by
  have h : (t == s) = (t.e == s.e && t.v == s.v) := by
    obtain ⟨e, v⟩ := t
    obtain ⟨e', v'⟩ := s
    rw [Bool.eq_iff_iff]
    simp
  have HE := Lib.hid h
  clear h
  cases h1 : (t.e == s.e) with
  | false =>
    go_enter Try.func222, Try.ntmps222
    go_wp2_with ((go_at_call 129; (first | (with_reducible refine call_later2 (eqExps_c _ _ _) ?_) | (with_reducible refine call_later (eqExps_c _ _ _) ?_)); intro x))
    go_ret
    exact .mk (by rw [HE.out, h1]; rfl) (by repeat (first | (with_reducible exact Below.refl _ _) | ((with_reducible refine Below.alloc ?_ ?_ _); rotate_left; (focus (first | omega | (simp; done) | (simp; omega)))) | ((with_reducible refine bel_later _ ?_ ?_); rotate_left; (focus (first | omega | (simp; done) | (simp; omega)))) | ((with_reducible refine Below.setCell ?_ ?_ _); rotate_left; (focus (first | omega | (simp; done) | (simp; omega))))))
  | true =>
    cases h2 : (t.v == s.v) with
    | false =>
      have h3 : (t.v != s.v) = true := by simp [bne, h2]
      go_enter Try.func222, Try.ntmps222
      go_wp2_with ((go_at_call 129; (first | (with_reducible refine call_later2 (eqExps_c _ _ _) ?_) | (with_reducible refine call_later (eqExps_c _ _ _) ?_)); intro x))
      go_ret
      exact .mk (by rw [HE.out, h1, h2]; rfl) (by repeat (first | (with_reducible exact Below.refl _ _) | ((with_reducible refine Below.alloc ?_ ?_ _); rotate_left; (focus (first | omega | (simp; done) | (simp; omega)))) | ((with_reducible refine bel_later _ ?_ ?_); rotate_left; (focus (first | omega | (simp; done) | (simp; omega)))) | ((with_reducible refine Below.setCell ?_ ?_ _); rotate_left; (focus (first | omega | (simp; done) | (simp; omega))))))
    | true =>
      have h3 : (t.v != s.v) = false := by simp [bne, h2]
      go_enter Try.func222, Try.ntmps222
      go_wp2_with ((go_at_call 129; (first | (with_reducible refine call_later2 (eqExps_c _ _ _) ?_) | (with_reducible refine call_later (eqExps_c _ _ _) ?_)); intro x))
      go_ret
      exact .mk (by rw [HE.out, h1, h2]; rfl) (by repeat (first | (with_reducible exact Below.refl _ _) | ((with_reducible refine Below.alloc ?_ ?_ _); rotate_left; (focus (first | omega | (simp; done) | (simp; omega)))) | ((with_reducible refine bel_later _ ?_ ?_); rotate_left; (focus (first | omega | (simp; done) | (simp; omega)))) | ((with_reducible refine Below.setCell ?_ ?_ _); rotate_left; (focus (first | omega | (simp; done) | (simp; omega))))))

theorem szTermS_c (A : Option Addr) (n c : Nat) (left : Int) (hl : 0 ≤ left) (hl2 : left ≤ 1048576) (hn : n ≤ 9223372036854775807) (w : World) :
    Calls Try.prog 134 #[.slice A n c, .int .i64 left] w (Gives (.int .i64 (if left < n then -1 else left - n)) w) := by
  by_cases h : left < n
  · have h1 : left - n < 0 := by omega
    rw [if_pos h]
    go_enter Try.func134, Try.ntmps134
    go_wp2
    go_ret
    exact .mk rfl (by repeat (first | (with_reducible exact Below.refl _ _) | ((with_reducible refine Below.alloc ?_ ?_ _); rotate_left; (focus (first | omega | (simp; done) | (simp; omega)))) | ((with_reducible refine bel_later _ ?_ ?_); rotate_left; (focus (first | omega | (simp; done) | (simp; omega)))) | ((with_reducible refine Below.setCell ?_ ?_ _); rotate_left; (focus (first | omega | (simp; done) | (simp; omega))))))
  · have h1 : ¬ left - n < 0 := by omega
    rw [if_neg h]
    go_enter Try.func134, Try.ntmps134
    go_wp2
    go_ret
    exact .mk rfl (by repeat (first | (with_reducible exact Below.refl _ _) | ((with_reducible refine Below.alloc ?_ ?_ _); rotate_left; (focus (first | omega | (simp; done) | (simp; omega)))) | ((with_reducible refine bel_later _ ?_ ?_); rotate_left; (focus (first | omega | (simp; done) | (simp; omega)))) | ((with_reducible refine Below.setCell ?_ ?_ _); rotate_left; (focus (first | omega | (simp; done) | (simp; omega))))))

theorem szPoly_c (p d : Int) (A : Option Addr) (n c : Nat) (left : Int) (hl : 0 ≤ left) (hl2 : left ≤ 1048576) (hn : n ≤ 9223372036854775807) (w : World) :
    Calls Try.prog 41 #[.agg #[.int .i64 p, .int .i64 d, .slice A n c], .int .i64 left] w (Gives (.int .i64 (if left < n then -1 else left - n)) w) := by
  by_cases h : left < n
  · have h1 : left - n < 0 := by omega
    have H := szTermS_c A n c left hl hl2 hn
    rw [if_pos h] at H ⊢
    have HH := Lib.hid H
    clear H
    go_enter Try.func41, Try.ntmps41
    go_wp2_with ((go_at_call 134; (first | (with_reducible refine call_later2 (HH.out _) ?_) | (with_reducible refine call_later (HH.out _) ?_)); intro x))
    go_ret
    exact .mk rfl (by repeat (first | (with_reducible exact Below.refl _ _) | ((with_reducible refine Below.alloc ?_ ?_ _); rotate_left; (focus (first | omega | (simp; done) | (simp; omega)))) | ((with_reducible refine bel_later _ ?_ ?_); rotate_left; (focus (first | omega | (simp; done) | (simp; omega)))) | ((with_reducible refine Below.setCell ?_ ?_ _); rotate_left; (focus (first | omega | (simp; done) | (simp; omega))))))
  · have h1 : ¬ left - n < 0 := by omega
    have H := szTermS_c A n c left hl hl2 hn
    rw [if_neg h] at H ⊢
    have HH := Lib.hid H
    clear H
    go_enter Try.func41, Try.ntmps41
    go_wp2_with ((go_at_call 134; (first | (with_reducible refine call_later2 (HH.out _) ?_) | (with_reducible refine call_later (HH.out _) ?_)); intro x))
    go_ret
    exact .mk rfl (by repeat (first | (with_reducible exact Below.refl _ _) | ((with_reducible refine Below.alloc ?_ ?_ _); rotate_left; (focus (first | omega | (simp; done) | (simp; omega)))) | ((with_reducible refine bel_later _ ?_ ?_); rotate_left; (focus (first | omega | (simp; done) | (simp; omega)))) | ((with_reducible refine Below.setCell ?_ ?_ _); rotate_left; (focus (first | omega | (simp; done) | (simp; omega))))))

theorem specIsPoly_c (p d : Int) (A : Option Addr) (c : Nat) (ts : List T4) (w : World) (hC : kT.C w A ts.length ts) (hn : ts.length ≤ 9223372036854775807) :
    Calls Try.prog 42 #[.agg #[.int .i64 p, .int .i64 d, .slice A ts.length c]] w (Gives (.bool (polyB p d ts)) w) := by
  have hC1 := Kd.C_alloc hC (.cells #[.int .i64 p, .int .i64 d, .slice A ts.length c] 41)
  go_enter Try.func42, Try.ntmps42
  go_wp2_with ((go_at_call 135; (first | (with_reducible refine call_later2 (l01Is_c _ _ _ _ _ _ hC1 hn) ?_) | (with_reducible refine call_later (l01Is_c _ _ _ _ _ _ hC1 hn) ?_)); intro x))
  go_ret
  exact .mk rfl (by repeat (first | (with_reducible exact Below.refl _ _) | ((with_reducible refine Below.alloc ?_ ?_ _); rotate_left; (focus (first | omega | (simp; done) | (simp; omega)))) | ((with_reducible refine bel_later _ ?_ ?_); rotate_left; (focus (first | omega | (simp; done) | (simp; omega)))) | ((with_reducible refine Below.setCell ?_ ?_ _); rotate_left; (focus (first | omega | (simp; done) | (simp; omega))))))
end Go.Proofs.Ytgieofidogkbaaa
