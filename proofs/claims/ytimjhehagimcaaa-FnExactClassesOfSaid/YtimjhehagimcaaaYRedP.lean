/- areRows and the program's ReduceRows; no condition. -/
import Derived.Test.YtimjhehagimcaaaYKitE
import Derived.Test.YtimjhehagimcaaaYKitP
set_option linter.unusedVariables false
set_option linter.unusedSimpArgs false
namespace Go.Proofs.Ytimjhehagimcaaa
open Go.RowKit Go.Proofs.YtimjhehagimcaaaW.PrintWords
attribute [local go_sem] Later.cell Later.frozen Later.lt Later.lt_add Later.le Later.le_add Later.ne Later.ne' add_at
def rowsB (p d : Int) (rows : List (List Int)) : Bool := (List.range rows.length).all (fun i => pointB p d (rows.getD i []))
theorem rowsB_no {p d : Int} {rows : List (List Int)} {i : Nat} (hi : i < rows.length) (h : pointB p d (rows.getD i []) = false) : rowsB p d rows = false := by
  rw [← Bool.not_eq_true]
  intro hc
  unfold rowsB at hc
  rw [List.all_eq_true] at hc
  rw [hc i (List.mem_range.2 hi)] at h
  cases h
theorem rowsB_yes {p d : Int} {rows : List (List Int)} (h : ∀ i, i < rows.length → pointB p d (rows.getD i []) = true) : rowsB p d rows = true := by
  unfold rowsB
  rw [List.all_eq_true]
  exact fun i hi => h i (List.mem_range.1 hi)
set_option maxRecDepth 100000 in
theorem areRows_c (p d : Int) (A : Option Addr) (c : Nat) (rows : List (List Int)) (w : World) (hp : 2 ≤ p) (hp' : p ≤ 13) (hC : kL.C w A rows.length rows) (hn : rows.length ≤ 1048576) (hr : ∀ i, (rows.getD i []).length ≤ 1048576) :
    Calls Try.prog 48 #[.int .i64 p, .int .i64 d, .slice A rows.length c] w (Gives (.bool (decide (rows.length ≤ 100) && rowsB p d rows)) w) := by
  by_cases hl : 100 < rows.length
  · rw [show decide (rows.length ≤ 100) = false from decide_eq_false (by omega), Bool.false_and]
    have hl' : (100 : Int) < rows.length := by omega
    go_enter Try.func48, Try.ntmps48
    go_wp2
    go_ret
    exact .mk rfl bq1
  · rw [show decide (rows.length ≤ 100) = true from decide_eq_true (by omega), Bool.true_and]
    have hl' : ¬ (100 : Int) < rows.length := by omega
    have HRL := Lib.hid hr
    clear hr
    go_enter Try.func48, Try.ntmps48
    go_wp2
    go_loopg [14] rows.length (fun g v14 w' => ∃ (i : Nat), i + g = rows.length ∧ v14 = .int .i64 i ∧ (∀ j, j < i → pointB p d (rows.getD j []) = true) ∧ Below w.heap.size w w')
    case atStart => exact ⟨0, by omega, rfl, fun j hj => by omega, bq1⟩
    case round =>
      obtain ⟨i, hik, rfl, hpos, hbel⟩ := hrel
      have HIK := Lib.hid hik
      have HPOS := Lib.hid hpos
      clear hik hpos
      by_cases hlt : i < rows.length
      · obtain ⟨b, o, B, cc, hA, q0, hcc, hCI⟩ := kL_at hC i hlt
        subst hA
        have q0 := pw_cell_below hbel q0
        have hi0 : (0 : Int) ≤ i := by omega
        have hi1 : (i : Int) < rows.length := by omega
        have hin : ((i : Int)).toNat = i := by omega
        have hrl := HRL.out i
        have HNO := Lib.hid (fun h => rowsB_no (p := p) (d := d) hlt h)
        have HST := Lib.hid (fun (h : pointB p d (rows.getD i []) = true) => (fun j (hj : j < i + 1) => (by
          rcases Nat.lt_or_ge j i with h1 | h1
          · exact HPOS.out j h1
          · rw [show j = i by omega]; exact h : pointB p d (rows.getD j []) = true)))
        have hF := fun W hC => field_c p B cc (rows.getD i []) W hp hp' hC (by omega)
        cases hq : ((((rows.getD i []).length : Int)) == d) with
        | false =>
          have hq' : ((((rows.getD i []).length : Int)) != d) = true := by simpa using hq
          rw [HNO.out (by unfold pointB; rw [hq, Bool.and_false])]
          generalize rows.getD i [] = y at *
          go_wp2
          go_ret
          exact .mk rfl bq1
        | true =>
          have hq' : ((((rows.getD i []).length : Int)) != d) = false := by simpa using hq
          cases ha : allB p (rows.getD i []) with
          | false =>
            rw [HNO.out (by unfold pointB; rw [ha, Bool.false_and])]
            rw [ha] at hF
            generalize rows.getD i [] = y at *
            go_wp2_with (go_at_call 88; (with_reducible refine to_gives (V := wr) (Below.refl _ _) (hF _ (Kd.C_below hCI hbel)) ?_); intro W9 hv9 _)
            go_ret
            exact .mk rfl (hbel.trans (hv9.mono hbel.size))
          | true =>
            have hstep := HST.out (by unfold pointB; rw [ha, hq]; rfl)
            have HSTEP := Lib.hid hstep
            rw [ha] at hF
            clear hstep
            generalize rows.getD i [] = y at *
            go_wp2_with (go_at_call 88; (with_reducible refine to_gives (V := wr) (Below.refl _ _) (hF _ (Kd.C_below hCI hbel)) ?_); intro W9 hv9 _)
            go_roundg (gk - 1)
            case measure => have := HIK.out; omega
            case rel => exact ⟨i + 1, by have := HIK.out; omega, by go_num, HSTEP.out, hbel.trans (hv9.mono hbel.size)⟩
      · have HY := Lib.hid (rowsB_yes (p := p) (d := d) (rows := rows) (fun j hj => HPOS.out j (by have := HIK.out; omega)))
        go_wp2
        go_ret
        exact .mk (by rw [HY.out]; rfl) bq1
end Go.Proofs.Ytimjhehagimcaaa
