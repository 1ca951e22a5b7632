/- The program's ReduceRows and the reference's; no condition. -/
import Derived.Test.YtimjhehagimcaaaYRedP
import Derived.Test.YtimjhehagimcaaaYKitV
set_option linter.unusedVariables false
set_option linter.unusedSimpArgs false
namespace Go.Proofs.Ytimjhehagimcaaa
open Go.RowKit Go.Proofs.YtimjhehagimcaaaW.PrintWords
attribute [local go_sem] Later.cell Later.frozen Later.lt Later.lt_add Later.le Later.le_add Later.ne Later.ne' add_at
def redR (p d : Int) (rows : List (List Int)) : List (List Int) × Int := if primeB p && inB d 0 100 && (decide (rows.length ≤ 100) && rowsB p d rows) then (echL p rows, 0) else ([], 2)
def MakesLC (rs : List (List Int)) (k : Int) (E : Nat) (w : World) (e : Ending) (w' : World) : Prop :=
  ∃ A c, e = .returned (.tuple #[.slice A rs.length c, .int .i64 k]) ∧ kL.R E w' w.heap.size (fun _ => True) (.slice A rs.length c) rs ∧ Below w.heap.size w w'
theorem MakesLC_nil (k : Int) (E : Nat) (w w' : World) (h : Below w.heap.size w w') : MakesLC [] k E w (.returned (.tuple #[.slice none 0 0, .int .i64 k])) w' := ⟨none, 0, rfl, Kd.R_nil _ _ _ _ _, h⟩
theorem primeB_Z {p : Int} (h : primeB p = true) : primeZ p := by
  unfold primeB at h
  unfold primeZ
  simp at h
  omega
theorem rows_ok {p d : Int} {rows : List (List Int)} (hp : 2 ≤ p) (h : rowsB p d rows = true) : ∀ r ∈ rows, RowOk p d.toNat r := by
  unfold rowsB at h
  rw [List.all_eq_true] at h
  intro r hr
  obtain ⟨i, hi, rfl⟩ := List.getElem_of_mem hr
  have h1 := h i (List.mem_range.2 hi)
  rw [show rows.getD i [] = rows[i] by simp [List.getD_eq_getElem?_getD, hi]] at h1
  unfold pointB allB at h1
  simp only [Bool.and_eq_true, List.all_eq_true, beq_iff_eq] at h1
  obtain ⟨h2, h3⟩ := h1
  refine ⟨by omega, fun j => ?_⟩
  rcases Nat.lt_or_ge j rows[i].length with hj | hj
  · have h4 := h2 j (List.mem_range.2 hj)
    unfold inB at h4
    simp only [Bool.and_eq_true, decide_eq_true_eq] at h4
    omega
  · rw [getD_out _ hj]
    have := hp
    omega
end Go.Proofs.Ytimjhehagimcaaa
