/- Walks of the functions on polynomials, numbers and rows, of both sides; no condition. -/
import Derived.Test.YtgidpgfkbgbhmaaZOpenA
import Derived.Test.YtgidpgfkbgbhmaaZKitM
import Derived.Test.YtgidpgfkbgbhmaaZKitI
/- Matrices among the arguments opened; no condition. -/
set_option linter.unusedVariables false
set_option linter.unusedSimpArgs false
namespace Go.Proofs.Ytgidpgfkbgbhmaa
open Go.RowKit Go.Proofs.YtgidpgfkbgbhmaaW.PrintWords Go.Deep Go.ChangeShapes Go.WideShapes
section
variable {P : Program} {H : Type} {enc : TypeId × Value → H} {w : World} {r : Reach} {b0 base : Nat} {spare : Nat → Bool} {held : Bool} {t e b : TypeId} {v : Value} {d : DataW H} {ps : List MemPlace}
theorem trod_mat {fuel : Nat} {cs : List Value} {x : DataW H × List MemPlace} (ht : P.underlying t = some (.array 3 e)) (he : P.underlying e = some (.array 3 b)) (hb : P.underlying b = some (.int .u8)) (ct : P.cellsOf t = 9) (ce : P.cellsOf e = 3) (cb : P.cellsOf b = 1)
    (h : DataW.trod enc P w base spare held fuel t cs = some x) : ∃ m : M9, cs = m.cs := by
  obtain ⟨xs, m, _, _, hl, hxl, hel⟩ := DataW.trod_array ht h
  rw [ct] at hl
  match cs, hl with
  | [c0, c1, c2, c3, c4, c5, c6, c7, c8], _ =>
    rw [ce] at hel
    have h0 := hel 0 (by omega)
    have h1 := hel 1 (by omega)
    have h2 := hel 2 (by omega)
    match xs, hxl with
    | [y0, y1, y2], _ =>
      obtain ⟨r0, e0⟩ := trod_u8x3 (x := y0) he hb ce cb (by simpa using h0)
      obtain ⟨r1, e1⟩ := trod_u8x3 (x := y1) he hb ce cb (by simpa using h1)
      obtain ⟨r2, e2⟩ := trod_u8x3 (x := y2) he hb ce cb (by simpa using h2)
      refine ⟨⟨r0, r1, r2⟩, ?_⟩
      simp only [E3.cs, List.cons.injEq] at e0 e1 e2
      obtain ⟨a0, a1, a2, _⟩ := e0
      obtain ⟨a3, a4, a5, _⟩ := e1
      obtain ⟨a6, a7, a8, _⟩ := e2
      rw [a0, a1, a2, a3, a4, a5, a6, a7, a8]
      rfl
theorem open_mat (ht : P.underlying t = some (.array 3 e)) (he : P.underlying e = some (.array 3 b)) (hb : P.underlying b = some (.int .u8)) (ct : P.cellsOf t = 9) (ce : P.cellsOf e = 3) (cb : P.cellsOf b = 1)
    (hv : Value.okWide P w r b0 t v) (h : DataW.Trod enc P w base spare held t v d ps) : ∃ m : M9, v = .agg #[.int .u8 (m.r0.a.toNat : Int), .int .u8 (m.r0.b.toNat : Int), .int .u8 (m.r0.c.toNat : Int), .int .u8 (m.r1.a.toNat : Int), .int .u8 (m.r1.b.toNat : Int), .int .u8 (m.r1.c.toNat : Int), .int .u8 (m.r2.a.toNat : Int), .int .u8 (m.r2.b.toNat : Int), .int .u8 (m.r2.c.toNat : Int)] := by
  simp only [Value.okWide, ht] at hv
  obtain ⟨cs, rfl, hsz, _⟩ := hv
  obtain ⟨fuel, hf⟩ := h
  obtain ⟨m, hm⟩ := trod_mat ht he hb ct ce cb hf
  refine ⟨m, ?_⟩
  have : cs = m.cs.toArray := by
    rw [← hm]
    simp [Value.cells]
  rw [this]
  rfl
end
end Go.Proofs.Ytgidpgfkbgbhmaa
/- Groups among the arguments opened; no condition. -/
set_option linter.unusedVariables false
set_option linter.unusedSimpArgs false
namespace Go.Proofs.Ytgidpgfkbgbhmaa
open Go.RowKit Go.Proofs.YtgidpgfkbgbhmaaW.PrintWords Go.Deep Go.ChangeShapes Go.WideShapes
end Go.Proofs.Ytgidpgfkbgbhmaa
