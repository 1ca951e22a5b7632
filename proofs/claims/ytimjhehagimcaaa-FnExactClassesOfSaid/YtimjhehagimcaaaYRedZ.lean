/- The sizes of lists of rows; no condition. -/
import Derived.Test.YtimjhehagimcaaaYRedP
set_option linter.unusedVariables false
set_option linter.unusedSimpArgs false
namespace Go.Proofs.Ytimjhehagimcaaa
open Go.RowKit Go.Proofs.YtimjhehagimcaaaW.PrintWords
attribute [local go_sem] Later.cell Later.frozen Later.lt Later.lt_add Later.le Later.le_add Later.ne Later.ne' add_at
def szS (n : Nat) (k : Int) : Int := if k - n < 0 then -1 else k - n
def goSS : List (List Int) → Int → Int
  | [], k => k
  | r :: rs, k => if k - r.length < 0 then -1 else goSS rs (k - r.length)
theorem szInt64S_c (A : Option Addr) (n c : Nat) (k : Int) (w : World) (hk : 0 ≤ k) (hk' : k ≤ 1048576) (hn : n ≤ 9223372036854775807) :
    Calls Try.prog 42 #[.slice A n c, .int .i64 k] w (Gives (.int .i64 (szS n k)) w) := by
  have hw : IntKind.i64.wrap (k - (n : Int)) = k - n := i64_small (by omega) (by omega)
  by_cases h : k - (n : Int) < 0
  · have e : szS n k = -1 := if_pos h
    rw [e]
    go_enter Try.func42, Try.ntmps42
    go_wp2
    go_ret
    exact .mk rfl bq1
  · have e : szS n k = k - n := if_neg h
    rw [e]
    go_enter Try.func42, Try.ntmps42
    go_wp2
    go_ret
    exact .mk rfl bq1
def szSS (rows : List (List Int)) (k : Int) : Int := if k - rows.length < 0 then -1 else goSS rows (k - rows.length)
theorem goSS_drop (rows : List (List Int)) (i : Nat) (hi : i < rows.length) (k : Int) : goSS (rows.drop i) k = if k - (rows.getD i []).length < 0 then -1 else goSS (rows.drop (i + 1)) (k - (rows.getD i []).length) := by
  rw [List.drop_eq_getElem_cons hi]
  rw [show rows.getD i [] = rows[i] by simp [List.getD_eq_getElem?_getD, hi]]
  rfl
set_option maxRecDepth 100000 in
theorem szSS_c (A : Option Addr) (c : Nat) (rows : List (List Int)) (k : Int) (w : World) (hC : kL.C w A rows.length rows) (hk : 0 ≤ k) (hk' : k ≤ 1048576) (hn : rows.length ≤ 9223372036854775807) (hr : ∀ i, (rows.getD i []).length ≤ 9223372036854775807) :
    Calls Try.prog 8 #[.slice A rows.length c, .int .i64 k] w (Gives (.int .i64 (szSS rows k)) w) := by
  have hw : IntKind.i64.wrap (k - (rows.length : Int)) = k - rows.length := i64_small (by omega) (by omega)
  have HR := Lib.hid hr
  clear hr
  by_cases h : k - (rows.length : Int) < 0
  · have e : szSS rows k = -1 := if_pos h
    rw [e]
    go_enter Try.func8, Try.ntmps8
    go_wp2
    go_ret
    exact .mk rfl bq1
  · have e : szSS rows k = goSS rows (k - rows.length) := if_neg h
    have E := Lib.hid e
    clear e
    go_enter Try.func8, Try.ntmps8
    go_wp2
    go_loopg [5, 1] rows.length (fun g v5 v1 w' => ∃ (i : Nat) (q : Int), i + g = rows.length ∧ v5 = .int .i64 i ∧ v1 = .int .i64 q ∧ 0 ≤ q ∧ q ≤ 1048576 ∧ goSS (rows.drop i) q = goSS rows (k - rows.length) ∧ Below w.heap.size w w')
    case atStart => exact ⟨0, _, by omega, rfl, rfl, by omega, by omega, rfl, bq1⟩
    case round =>
      obtain ⟨i, q, hik, rfl, rfl, hq0, hq1, hgo, hbel⟩ := hrel
      have HIK := Lib.hid hik
      have HGO := Lib.hid hgo
      clear hik hgo
      by_cases hlt : i < rows.length
      · obtain ⟨b, o, B, cc, hA, q0, hcc, hCI⟩ := kL_at hC i hlt
        subst hA
        have q0 := pw_cell_below hbel q0
        have hi0 : (0 : Int) ≤ i := by omega
        have hi1 : (i : Int) < rows.length := by omega
        have hin : ((i : Int)).toNat = i := by omega
        have hst := goSS_drop rows i hlt q
        have hS := fun W => szInt64S_c B (rows.getD i []).length cc q W hq0 hq1 (HR.out i)
        by_cases hz : q - ((rows.getD i []).length : Int) < 0
        · have HG := Lib.hid (show szSS rows k = -1 by rw [E.out, ← HGO.out, hst, if_pos hz])
          have e1 : szS (rows.getD i []).length q = -1 := if_pos hz
          rw [e1] at hS
          clear hst e1
          rw [HG.out]
          generalize rows.getD i [] = y at *
          go_wp2_with (go_at_call 42; (with_reducible refine to_gives (V := wr) (Below.refl _ _) (hS _) ?_); intro W9 hv9 _)
          go_ret
          exact .mk rfl (hbel.trans (hv9.mono hbel.size))
        · have e1 : szS (rows.getD i []).length q = q - (rows.getD i []).length := if_neg hz
          rw [e1] at hS
          rw [if_neg hz] at hst
          have HST := Lib.hid (hst.symm.trans HGO.out)
          clear hst e1
          generalize rows.getD i [] = y at *
          go_wp2_with (go_at_call 42; (with_reducible refine to_gives (V := wr) (Below.refl _ _) (hS _) ?_); intro W9 hv9 _)
          go_roundg (rows.length - i - 1)
          case measure => have := HIK.out; omega
          case rel => exact ⟨i + 1, _, by have := HIK.out; omega, by go_num, rfl, by omega, by omega, HST.out, hbel.trans (hv9.mono hbel.size)⟩
      · have hie : i = rows.length := by have := HIK.out; omega
        subst hie
        have HG := Lib.hid (show szSS rows k = q by rw [E.out, ← HGO.out, List.drop_length]; rfl)
        go_wp2
        go_ret
        exact .mk (by rw [HG.out]; rfl) bq1
end Go.Proofs.Ytimjhehagimcaaa
