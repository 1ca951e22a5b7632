/- Walks of the functions on polynomials, numbers and rows, of both sides; no condition. -/
import Derived.Test.YtneknpamceipiaaYKitA
import Derived.Test.YtneknpamceipiaaRows
import Derived.KernelRfl
import Derived.Deep.Slices
import Derived.OpenShut
import Derived.Lib.SmallJoins
/- How the arguments of the laws' rows are opened: what a value reads as, as rows of the kinds; no condition. -/
set_option linter.unusedVariables false
set_option linter.unusedSimpArgs false
namespace Go.Proofs.Ytneknpamceipiaa
open Go.RowKit Go.Proofs.YtneknpamceipiaaW.PrintWords Go.Deep Go.ChangeShapes Go.WideShapes
/-- What reads at type t is of kind d. -/
def Opens (P : Program) {α : Type} (d : Kd α) (t : TypeId) : Prop :=
  ∀ {H : Type} (enc : TypeId × Value → H) (w : World) (base : Nat) (spare : Nat → Bool) (held : Bool) (fuel : Nat) (cs : List Value) (x : DataW H × List MemPlace), DataW.trod enc P w base spare held fuel t cs = some x → ∃ y : α, d.K w y cs
theorem wf_u8 {n : Int} (h : (Lit.int .u8 n).wf = true) : ∃ x : UInt8, n = (x.toNat : Int) := by
  have hb := bounds_u8 h
  refine ⟨UInt8.ofNat n.toNat, ?_⟩
  rw [UInt8.toNat_ofNat']
  have : n.toNat < 2 ^ 8 := by omega
  rw [Nat.mod_eq_of_lt this]
  omega
theorem opens_slice {P : Program} {α : Type} {d : Kd α} {t e : TypeId} (ht : P.underlying t = some (.slice e)) (hc : P.cellsOf e = d.sz) (h : Opens P d e) (z : α) : Opens P (Kd.slice e d) t := by
  intro H enc w base spare held fuel cs x hx
  rcases open_slice ht hx with ⟨rfl, _⟩ | ⟨a, len, cap, m, n, D, Pl, rfl, _, hl, hm, hme, _, hel⟩
  · exact ⟨[], none, 0, rfl, Nat.le_refl _, Kd.C_nil d w⟩
  · have hlm : len ≤ m := by rw [hme]; split <;> omega
    have hk : ∀ i, i < len → ∃ y : α, ∃ c, c.length = d.sz ∧ d.K w y c ∧ ∀ j u, c[j]? = some u → w.cell? (a.add (i * d.sz + j)) = some u := by
      intro i hi
      obtain ⟨cs', h1, h2⟩ := hel i (by omega)
      obtain ⟨y, hy⟩ := h enc w base spare held n cs' _ h2
      obtain ⟨_, hlen, hcell⟩ := World.cells?_some h1
      refine ⟨y, cs', d.K_len hy, hy, fun j u hu => ?_⟩
      have hj : j < P.cellsOf e := by rw [← hlen]; exact (List.getElem?_eq_some_iff.1 hu).1
      rw [← hc, ← Go.Deep.add_add, hcell j hj, hu]
    have hf : ∃ f : Nat → α, ∀ i, i < len → ∃ c, c.length = d.sz ∧ d.K w (f i) c ∧ ∀ j u, c[j]? = some u → w.cell? (a.add (i * d.sz + j)) = some u := by
      refine ⟨fun i => if hi : i < len then Classical.choose (hk i hi) else z, fun i hi => ?_⟩
      simp only [hi, dif_pos]
      exact Classical.choose_spec (hk i hi)
    obtain ⟨f, hf⟩ := hf
    have hlen : ((List.range len).map f).length = len := by simp
    refine ⟨(List.range len).map f, some a, cap, by rw [hlen], by rw [hlen]; exact hl, ?_⟩
    refine ⟨rfl, by rw [hlen]; simp only [maxLen] at hm; omega, fun _ => ⟨a, rfl, fun j p hp => ?_⟩⟩
    obtain ⟨hj, hp'⟩ := List.getElem?_eq_some_iff.1 hp
    have hj' : j < len := by simpa using hj
    have : f j = p := by simpa using hp'
    rw [← this]
    exact hf j hj'
/-- Three bytes. -/
theorem trod_u8x3 {H : Type} {enc : TypeId × Value → H} {P : Program} {w : World} {base : Nat} {spare : Nat → Bool} {held : Bool} {fuel : Nat} {t e : TypeId} {cs : List Value} {x : DataW H × List MemPlace} (ht : P.underlying t = some (.array 3 e)) (he : P.underlying e = some (.int .u8)) (hc : P.cellsOf t = 3) (hce : P.cellsOf e = 1)
    (h : DataW.trod enc P w base spare held fuel t cs = some x) : ∃ y : E3, cs = y.cs := by
  obtain ⟨xs, m, _, _, hl, hxl, hel⟩ := DataW.trod_array ht h
  rw [hc] at hl
  match cs, hl with
  | [c0, c1, c2], _ =>
    rw [hce] at hel
    have h0 := hel 0 (by omega)
    have h1 := hel 1 (by omega)
    have h2 := hel 2 (by omega)
    match xs, hxl with
    | [y0, y1, y2], _ =>
      obtain ⟨n0, e0, _, w0⟩ := DataW.trod_int he (x := y0) (by simpa using h0)
      obtain ⟨n1, e1, _, w1⟩ := DataW.trod_int he (x := y1) (by simpa using h1)
      obtain ⟨n2, e2, _, w2⟩ := DataW.trod_int he (x := y2) (by simpa using h2)
      obtain ⟨a, rfl⟩ := wf_u8 w0
      obtain ⟨b, rfl⟩ := wf_u8 w1
      obtain ⟨c, rfl⟩ := wf_u8 w2
      simp at e0 e1 e2
      subst e0 e1 e2
      exact ⟨⟨a, b, c⟩, rfl⟩
theorem opens_T4 {P : Program} {t e b i : TypeId} {f0 f1 : Field} (ht : P.underlying t = some (.struct #[f0, f1])) (h0 : f0.type = e) (h1 : f1.type = i) (o0 : f0.offset = 0) (o1 : f1.offset = 3) (he : P.underlying e = some (.array 3 b)) (hb : P.underlying b = some (.int .u8)) (hi : P.underlying i = some (.int .i64))
    (ct : P.cellsOf t = 4) (ce : P.cellsOf e = 3) (cb : P.cellsOf b = 1) (ci : P.cellsOf i = 1) : Opens P kT t := by
  intro H enc w base spare held fuel cs x hx
  obtain ⟨xs, n, _, _, hl, hxl, hf⟩ := DataW.trod_struct ht hx
  rw [ct] at hl
  have g0 := hf 0 f0 rfl
  have g1 := hf 1 f1 rfl
  rw [h0, o0, ce] at g0
  rw [h1, o1, ci] at g1
  match xs, hxl with
  | [y0, y1], _ =>
    match cs, hl with
    | [c0, c1, c2, c3], _ =>
      obtain ⟨y, hy⟩ := trod_u8x3 (x := y0) he hb ce cb (by simpa using g0)
      obtain ⟨v, hv, _, _⟩ := DataW.trod_int hi (x := y1) (by simpa using g1)
      refine ⟨⟨y, v⟩, ?_⟩
      show _ = T4.cs ⟨y, v⟩
      simp [E3.cs] at hy
      simp at hv
      obtain ⟨r0, r1, r2⟩ := hy
      rw [r0, r1, r2, hv]
      rfl
/-- A polynomial among the arguments. -/
theorem open_poly {P : Program} {H : Type} {enc : TypeId × Value → H} {w : World} {r : Reach} {b0 base : Nat} {spare : Nat → Bool} {held : Bool} {t i s e : TypeId} {f0 f1 f2 : Field} {v : Value} {d : DataW H} {ps : List MemPlace} (ht : P.underlying t = some (.struct #[f0, f1, f2])) (hone : oneCellFields P #[f0, f1, f2] = true) (hC : P.cellsOf t = 3)
    (h0 : f0.type = i) (h1 : f1.type = i) (h2 : f2.type = s) (hi : P.underlying i = some (.int .i64)) (hs : P.underlying s = some (.slice e)) (hc : P.cellsOf e = 4) (ho : Opens P kT e)
    (hv : Value.okWide P w r b0 t v) (h : DataW.Trod enc P w base spare held t v d ps) :
    ∃ (p n : Int) (A : Option Addr) (c : Nat) (ts : List T4), v = .agg #[.int .i64 p, .int .i64 n, .slice A ts.length c] ∧ (Lit.int .i64 p).wf = true ∧ (Lit.int .i64 n).wf = true ∧ ts.length ≤ c ∧ kT.C w A ts.length ts ∧ ts.length ≤ 9223372036854775807 := by
  obtain ⟨v0, v1, v2, y0, y1, y2, n, rfl, _, _, g0, g1, g2⟩ := Go.Joins.open_agg3 ht hone hC hv h
  rw [h0] at g0
  rw [h1] at g1
  rw [h2] at g2
  obtain ⟨p, e0, _, w0⟩ := DataW.trod_int hi g0
  obtain ⟨m, e1, _, w1⟩ := DataW.trod_int hi g1
  obtain ⟨ts, A, c, e2, hl, hcc⟩ := opens_slice hs hc ho z4 enc w base spare held n _ _ g2
  simp at e0 e1 e2
  subst e0 e1 e2
  exact ⟨p, m, A, c, ts, rfl, w0, w1, hl, hcc, hcc.2.1⟩
theorem opensT : Opens Try.prog kT 131 := opens_T4 Try.underlying131 rfl rfl rfl rfl Try.underlying79 Try.underlying5 Try.underlying2 (by kernel_rfl) (by kernel_rfl) (by kernel_rfl) (by kernel_rfl)
end Go.Proofs.Ytneknpamceipiaa
/- More arguments opened: numbers, rows of numbers; no condition. -/
set_option linter.unusedVariables false
set_option linter.unusedSimpArgs false
namespace Go.Proofs.Ytneknpamceipiaa
open Go.RowKit Go.Proofs.YtneknpamceipiaaW.PrintWords Go.Deep Go.ChangeShapes Go.WideShapes
section
variable {P : Program} {H : Type} {enc : TypeId × Value → H} {w : World} {r : Reach} {b0 base : Nat} {spare : Nat → Bool} {held : Bool} {t e : TypeId} {v : Value} {d : DataW H} {ps : List MemPlace}
theorem open_row {α : Type} {d0 : Kd α} (z : α) (ht : P.underlying t = some (.slice e)) (hc : P.cellsOf e = d0.sz) (ho : Opens P d0 e) (hv : Value.okWide P w r b0 t v) (h : DataW.Trod enc P w base spare held t v d ps) :
    ∃ (A : Option Addr) (c : Nat) (xs : List α), v = .slice A xs.length c ∧ xs.length ≤ c ∧ d0.C w A xs.length xs ∧ xs.length ≤ 9223372036854775807 := by
  obtain ⟨a, n, c, rfl⟩ := okWide_slice ht hv
  obtain ⟨fuel, hf⟩ := h
  obtain ⟨xs, A, c', e2, hl, hcc⟩ := opens_slice ht hc ho z enc w base spare held fuel _ _ hf
  simp [Value.cells] at e2
  obtain ⟨rfl, rfl, rfl⟩ := e2
  exact ⟨a, c, xs, rfl, hl, hcc, hcc.2.1⟩
end
end Go.Proofs.Ytneknpamceipiaa
