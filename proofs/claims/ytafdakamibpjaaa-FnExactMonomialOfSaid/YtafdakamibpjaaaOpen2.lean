/- More arguments opened: numbers, rows of numbers; no condition. -/
import Derived.Test.YtafdakamibpjaaaOpen
import Derived.Test.YtafdakamibpjaaaKitA
set_option linter.unusedVariables false
set_option linter.unusedSimpArgs false
namespace Go.Proofs.Ytafdakamibpjaaa
open Go.RowKit Go.Proofs.YtafdakamibpjaaaW.PrintWords Go.Deep Go.ChangeShapes Go.WideShapes

section
variable {P : Program} {H : Type} {enc : TypeId × Value → H} {w : World} {r : Reach} {b0 base : Nat} {spare : Nat → Bool} {held : Bool} {t e : TypeId} {v : Value} {d : DataW H} {ps : List MemPlace}

theorem open_i64 (ht : P.underlying t = some (.int .i64)) (hv : Value.okWide P w r b0 t v) (h : DataW.Trod enc P w base spare held t v d ps) :
    ∃ n : Int, v = .int .i64 n ∧ (-9223372036854775808 ≤ n ∧ n ≤ 9223372036854775807) := by
  obtain ⟨n, hv, _, _, hw⟩ := open_int ht hv h
  have := bounds_i64 hw
  exact ⟨n, hv, by omega⟩
theorem open_row {α : Type} {d0 : Kd α} (z : α) (ht : P.underlying t = some (.slice e)) (hc : P.cellsOf e = d0.sz) (ho : Opens P d0 e) (hv : Value.okWide P w r b0 t v) (h : DataW.Trod enc P w base spare held t v d ps) :
    ∃ (A : Option Addr) (c : Nat) (xs : List α), v = .slice A xs.length c ∧ xs.length ≤ c ∧ d0.C w A xs.length xs ∧ xs.length ≤ 9223372036854775807 := by
  obtain ⟨a, n, c, rfl⟩ := okWide_slice ht hv
  obtain ⟨fuel, hf⟩ := h
  obtain ⟨xs, A, c', e2, hl, hcc⟩ := opens_slice ht hc ho z enc w base spare held fuel _ _ hf
  simp [Value.cells] at e2
  obtain ⟨rfl, rfl, rfl⟩ := e2
  exact ⟨a, c, xs, rfl, hl, hcc, hcc.2.1⟩
end
theorem opensI : Opens Try.prog kI 2 := opens_int _ Try.underlying2
end Go.Proofs.Ytafdakamibpjaaa
