/- Walks of the functions on polynomials, numbers and rows, of both sides; no condition. -/
import Derived.Test.YtimjhehagimcaaaYOpenA
import Derived.Test.YtimjhehagimcaaaYKitM
import Derived.Test.YtimjhehagimcaaaYKitI
/- Matrices among the arguments opened; no condition. -/
set_option linter.unusedVariables false
set_option linter.unusedSimpArgs false
namespace Go.Proofs.Ytimjhehagimcaaa
open Go.RowKit Go.Proofs.YtimjhehagimcaaaW.PrintWords Go.Deep Go.ChangeShapes Go.WideShapes
section
variable {P : Program} {H : Type} {enc : TypeId × Value → H} {w : World} {r : Reach} {b0 base : Nat} {spare : Nat → Bool} {held : Bool} {t e b : TypeId} {v : Value} {d : DataW H} {ps : List MemPlace}
theorem trod_mat {fuel : Nat} {cs : List Value} {x : DataW H × List MemPlace} (ht : P.underlying t = some (.array 3 e)) (he : P.underlying e = some (.array 3 b)) (hb : P.underlying b = some (.int .u8)) (ct : P.cellsOf t = 9) (ce : P.cellsOf e = 3) (cb : P.cellsOf b = 1)
    (h : DataW.trod enc P w base spare held fuel t cs = some x) : ∃ m : M9, cs = m.cs := by
  obtain ⟨xs, m, _, _, hl, hxl, hel⟩ := DataW.trod_array ht h
  rw [ct] at hl
  match cs, hl with
  | [c0, c1, c2, c3, c4, c5, c6, c7, c8], _ =>
    rw [ce] at hel
    have h0 := hel 0 (by omega)
    have h1 := hel 1 (by omega)
    have h2 := hel 2 (by omega)
    match xs, hxl with
    | [y0, y1, y2], _ =>
      obtain ⟨r0, e0⟩ := trod_u8x3 (x := y0) he hb ce cb (by simpa using h0)
      obtain ⟨r1, e1⟩ := trod_u8x3 (x := y1) he hb ce cb (by simpa using h1)
      obtain ⟨r2, e2⟩ := trod_u8x3 (x := y2) he hb ce cb (by simpa using h2)
      refine ⟨⟨r0, r1, r2⟩, ?_⟩
      simp only [E3.cs, List.cons.injEq] at e0 e1 e2
      obtain ⟨a0, a1, a2, _⟩ := e0
      obtain ⟨a3, a4, a5, _⟩ := e1
      obtain ⟨a6, a7, a8, _⟩ := e2
      rw [a0, a1, a2, a3, a4, a5, a6, a7, a8]
      rfl
end
end Go.Proofs.Ytimjhehagimcaaa
/- Groups among the arguments opened; no condition. -/
set_option linter.unusedVariables false
set_option linter.unusedSimpArgs false
namespace Go.Proofs.Ytimjhehagimcaaa
open Go.RowKit Go.Proofs.YtimjhehagimcaaaW.PrintWords Go.Deep Go.ChangeShapes Go.WideShapes
theorem opens_M9 {P : Program} {t e b : TypeId} (ht : P.underlying t = some (.array 3 e)) (he : P.underlying e = some (.array 3 b)) (hb : P.underlying b = some (.int .u8)) (ct : P.cellsOf t = 9) (ce : P.cellsOf e = 3) (cb : P.cellsOf b = 1) : Opens P kM t := by
  intro H enc w base spare held fuel cs x hx
  obtain ⟨m, hm⟩ := trod_mat ht he hb ct ce cb hx
  exact ⟨m, hm⟩
/-- A group among the arguments. -/
theorem open_group {P : Program} {H : Type} {enc : TypeId × Value → H} {w : World} {r : Reach} {b0 base : Nat} {spare : Nat → Bool} {held : Bool} {t i s e : TypeId} {f0 f1 f2 : Field} {v : Value} {d : DataW H} {ps : List MemPlace} (ht : P.underlying t = some (.struct #[f0, f1, f2])) (hone : oneCellFields P #[f0, f1, f2] = true) (hC : P.cellsOf t = 3)
    (h0 : f0.type = i) (h1 : f1.type = i) (h2 : f2.type = s) (hi : P.underlying i = some (.int .i64)) (hs : P.underlying s = some (.slice e)) (hc : P.cellsOf e = 9) (ho : Opens P kM e)
    (hv : Value.okWide P w r b0 t v) (h : DataW.Trod enc P w base spare held t v d ps) :
    ∃ (p n : Int) (A : Option Addr) (c : Nat) (ts : List M9), v = .agg #[.int .i64 p, .int .i64 n, .slice A ts.length c] ∧ (Lit.int .i64 p).wf = true ∧ (Lit.int .i64 n).wf = true ∧ ts.length ≤ c ∧ kM.C w A ts.length ts ∧ ts.length ≤ 9223372036854775807 := by
  obtain ⟨v0, v1, v2, y0, y1, y2, n, rfl, _, _, g0, g1, g2⟩ := Go.Joins.open_agg3 ht hone hC hv h
  rw [h0] at g0
  rw [h1] at g1
  rw [h2] at g2
  obtain ⟨p, e0, _, w0⟩ := DataW.trod_int hi g0
  obtain ⟨m, e1, _, w1⟩ := DataW.trod_int hi g1
  obtain ⟨ts, A, c, e2, hl, hcc⟩ := opens_slice hs hc ho zM enc w base spare held n _ _ g2
  simp at e0 e1 e2
  subst e0 e1 e2
  exact ⟨p, m, A, c, ts, rfl, w0, w1, hl, hcc, hcc.2.1⟩
theorem opensM : Opens Try.prog kM 40 := opens_M9 Try.underlying40 Try.underlying39 Try.underlying5 (by kernel_rfl) (by kernel_rfl) (by kernel_rfl)
end Go.Proofs.Ytimjhehagimcaaa
