/- The reference's ReduceRows; no condition. -/
import Derived.Test.YtimjhehagimcaaaYRedQ
import Derived.Test.YtimjhehagimcaaaYKitE
set_option linter.unusedVariables false
set_option linter.unusedSimpArgs false
namespace Go.Proofs.Ytimjhehagimcaaa
open Go.RowKit Go.Proofs.YtimjhehagimcaaaW.PrintWords
attribute [local go_sem] Later.cell Later.frozen Later.lt Later.lt_add Later.le Later.le_add Later.ne Later.ne' add_at
set_option maxRecDepth 100000 in
theorem specReduceRows_c (p d : Int) (A : Option Addr) (c : Nat) (rows : List (List Int)) (w : World) (hC : kL.C w A rows.length rows) (hn : rows.length ≤ 1048576) (hr : ∀ i, (rows.getD i []).length ≤ 1048576) (hc : rows.length ≤ c) :
    Calls Try.prog 9 #[.int .i64 p, .int .i64 d, .slice A rows.length c] w (MakesLC (redR p d rows).1 (redR p d rows).2 55 w) := by
  have HC := Lib.hid hC
  have HR := Lib.hid hr
  have hP := fun W => l01Prime_c p W
  clear hr
  cases h1 : primeB p with
  | false =>
    have e : redR p d rows = ([], 2) := by simp [redR, h1]
    rw [e]
    rw [h1] at hP
    clear h1 e
    go_enter Try.func9, Try.ntmps9
    go_wp2_with (first | (go_at_call 43; (first | (with_reducible refine call_later2 (hP _) ?_) | (with_reducible refine call_later (hP _) ?_)); intro x))
    refine bodyPost_ret (v := .tuple #[.slice none 0 0, .int .i64 2]) (by simp [results, Try.results9, go_sem]) rfl ?_
    exact MakesLC_nil _ _ _ _ bq1
  | true =>
    rw [h1] at hP
    obtain ⟨hp, hp'⟩ := prime_bd h1
    have hI := fun W => l01In_c d 0 100 W
    cases h2 : inB d 0 100 with
    | false =>
      have e : redR p d rows = ([], 2) := by simp [redR, h2]
      rw [e]
      rw [h2] at hI
      clear h1 h2 e
      go_enter Try.func9, Try.ntmps9
      go_wp2_with (first | (go_at_call 43; (first | (with_reducible refine call_later2 (hP _) ?_) | (with_reducible refine call_later (hP _) ?_)); intro x) | (go_at_call 44; (first | (with_reducible refine call_later2 (hI _) ?_) | (with_reducible refine call_later (hI _) ?_)); intro x2))
      refine bodyPost_ret (v := .tuple #[.slice none 0 0, .int .i64 2]) (by simp [results, Try.results9, go_sem]) rfl ?_
      exact MakesLC_nil _ _ _ _ bq1
    | true =>
      rw [h2] at hI
      have hd : 0 ≤ d ∧ d ≤ 100 := by simpa [inB] using h2
      by_cases hl : 100 < rows.length
      · have e : redR p d rows = ([], 2) := by
          unfold redR
          rw [show decide (rows.length ≤ 100) = false from decide_eq_false (by omega), Bool.false_and, Bool.and_false]
          rfl
        rw [e]
        have hl' : (100 : Int) < rows.length := by omega
        clear h1 h2 e
        go_enter Try.func9, Try.ntmps9
        go_wp2_with (first | (go_at_call 43; (first | (with_reducible refine call_later2 (hP _) ?_) | (with_reducible refine call_later (hP _) ?_)); intro x) | (go_at_call 44; (first | (with_reducible refine call_later2 (hI _) ?_) | (with_reducible refine call_later (hI _) ?_)); intro x2))
        refine bodyPost_ret (v := .tuple #[.slice none 0 0, .int .i64 2]) (by simp [results, Try.results9, go_sem]) rfl ?_
        exact MakesLC_nil _ _ _ _ bq1
      · have hl' : ¬ (100 : Int) < rows.length := by omega
        have HNO := Lib.hid (show rowsB p d rows = false → redR p d rows = ([], 2) from fun h => by unfold redR; rw [h, Bool.and_false, Bool.and_false]; rfl)
        have HYES := Lib.hid (show rowsB p d rows = true → redR p d rows = (echL p rows, 0) from fun h => by unfold redR; rw [h1, h2, h, show decide (rows.length ≤ 100) = true from decide_eq_true (by omega)]; rfl)
        have HZ := Lib.hid (primeB_Z h1)
        clear h1 h2
        go_enter Try.func9, Try.ntmps9
        go_wp2_with (first | (go_at_call 43; (first | (with_reducible refine call_later2 (hP _) ?_) | (with_reducible refine call_later (hP _) ?_)); intro x) | (go_at_call 44; (first | (with_reducible refine call_later2 (hI _) ?_) | (with_reducible refine call_later (hI _) ?_)); intro x2))
        have hbV : Below w.heap.size w x2.W := bq1
        generalize x2.W = V at *
        clear x x2 hP hI
        go_loopg [8] rows.length (fun g v8 w' => ∃ (i : Nat), i + g = rows.length ∧ v8 = .int .i64 i ∧ (∀ j, j < i → pointB p d (rows.getD j []) = true) ∧ Below w.heap.size w w')
        case atStart => exact ⟨0, by omega, rfl, fun j hj => by omega, hbV⟩
        case round =>
          obtain ⟨i, hik, rfl, hpos, hbel⟩ := hrel
          have HIK := Lib.hid hik
          have HPOS := Lib.hid hpos
          clear hik hpos
          by_cases hlt : i < rows.length
          · obtain ⟨b, o, B, cc, hA, q0, hcc, hCI⟩ := kL_at HC.out i hlt
            subst hA
            have q0 := pw_cell_below hbel q0
            have hi0 : (0 : Int) ≤ i := by omega
            have hi1 : (i : Int) < rows.length := by omega
            have hin : ((i : Int)).toNat = i := by omega
            have hrl := HR.out i
            have hF := fun W hC => l01Point_c p d B cc (rows.getD i []) W hp hp' hC (by omega)
            cases ha : pointB p d (rows.getD i []) with
            | false =>
              rw [HNO.out (rowsB_no hlt ha)]
              rw [ha] at hF
              clear ha
              generalize rows.getD i [] = y at *
              go_wp2_with (go_at_call 45; (with_reducible refine to_gives (V := wr) (Below.refl _ _) (hF _ (Kd.C_below hCI hbel)) ?_); intro W9 hv9 _)
              refine bodyPost_ret (v := .tuple #[.slice none 0 0, .int .i64 2]) (by simp [results, Try.results9, go_sem]) rfl ?_
              exact MakesLC_nil _ _ _ _ (hbel.trans (hv9.mono hbel.size))
            | true =>
              have HSTEP := Lib.hid (show ∀ j, j < i + 1 → pointB p d (rows.getD j []) = true from fun j hj => by
                rcases Nat.lt_or_ge j i with h1 | h1
                · exact HPOS.out j h1
                · rw [show j = i by omega]; exact ha)
              rw [ha] at hF
              clear ha
              generalize rows.getD i [] = y at *
              go_wp2_with (go_at_call 45; (with_reducible refine to_gives (V := wr) (Below.refl _ _) (hF _ (Kd.C_below hCI hbel)) ?_); intro W9 hv9 _)
              go_roundg (gk - 1)
              case measure => have := HIK.out; omega
              case rel => exact ⟨i + 1, by have := HIK.out; omega, by go_num, HSTEP.out, hbel.trans (hv9.mono hbel.size)⟩
          · have hY := rowsB_yes (p := p) (d := d) (rows := rows) (fun j hj => HPOS.out j (by have := HIK.out; omega))
            have HY := Lib.hid (HYES.out hY)
            have HE := Lib.hid (l01Echelon_c (L := d.toNat) HZ.out (by omega) (show rows.length ≤ 100000 by omega) (rows_ok hp hY) A c wr (Kd.C_below HC.out hbel) hc)
            clear hY
            generalize echL p rows = rs at *
            go_wp2_with (go_at_call 46; (with_reducible refine call_makes HE.out ?_); intro x3 A3 c3 hb3 hl3 hR3 hC3)
            have zb := hbel.size
            refine bodyPost_ret (v := .tuple #[.slice A3 rs.length c3, .int .i64 0]) (by simp [results, Try.results9, go_sem]) rfl ?_
            rw [HY.out]
            exact ⟨_, _, rfl, Kd.R_lower hR3 zb, hbel.trans (hb3.mono hbel.size)⟩
end Go.Proofs.Ytimjhehagimcaaa
