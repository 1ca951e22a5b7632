/- Walks of the functions on polynomials, numbers and rows, of both sides; no condition. -/
import Derived.Test.YtimjhehagimcaaaYKitE
import Derived.Test.YtimjhehagimcaaaYKitM
import Derived.BigQuiet
import Derived.Deep.RegionWith
import Derived.Deep.CutRange
/- The walk of the reference's inverse of a matrix; no condition. -/
set_option linter.unusedVariables false
set_option linter.unusedSimpArgs false
namespace Go.Proofs.Ytimjhehagimcaaa
open Go.RowKit Go.Proofs.YtimjhehagimcaaaW.PrintWords
attribute [local go_sem] Later.cell Later.frozen Later.lt Later.lt_add Later.le Later.le_add Later.ne Later.ne' add_at
end Go.Proofs.Ytimjhehagimcaaa
/- The walks of IsMatrix of both sides; no condition. -/
set_option linter.unusedVariables false
set_option linter.unusedSimpArgs false
namespace Go.Proofs.Ytimjhehagimcaaa
open Go.RowKit Go.Proofs.YtimjhehagimcaaaW.PrintWords
attribute [local go_sem] Later.cell Later.frozen Later.lt Later.lt_add Later.le Later.le_add Later.ne Later.ne' add_at
end Go.Proofs.Ytimjhehagimcaaa
/- The walks of the reference's IsMatrix; no condition. -/
set_option linter.unusedVariables false
set_option linter.unusedSimpArgs false
namespace Go.Proofs.Ytimjhehagimcaaa
open Go.RowKit Go.Proofs.YtimjhehagimcaaaW.PrintWords
attribute [local go_sem] Later.cell Later.frozen Later.lt Later.lt_add Later.le Later.le_add Later.ne Later.ne' add_at
end Go.Proofs.Ytimjhehagimcaaa
/- The walk of areMatrices; no condition. -/
set_option linter.unusedVariables false
set_option linter.unusedSimpArgs false
namespace Go.Proofs.Ytimjhehagimcaaa
open Go.RowKit Go.Proofs.YtimjhehagimcaaaW.PrintWords
attribute [local go_sem] Later.cell Later.frozen Later.lt Later.lt_add Later.le Later.le_add Later.ne Later.ne' add_at
end Go.Proofs.Ytimjhehagimcaaa
/- The walks of DeterminantOf of both sides; no condition. -/
set_option linter.unusedVariables false
set_option linter.unusedSimpArgs false
namespace Go.Proofs.Ytimjhehagimcaaa
open Go.RowKit Go.Proofs.YtimjhehagimcaaaW.PrintWords
attribute [local go_sem] Later.cell Later.frozen Later.lt Later.lt_add Later.le Later.le_add Later.ne Later.ne' add_at
end Go.Proofs.Ytimjhehagimcaaa
/- The walks of MultiplyMatrices of both sides; no condition. -/
set_option linter.unusedVariables false
set_option linter.unusedSimpArgs false
namespace Go.Proofs.Ytimjhehagimcaaa
open Go.RowKit Go.Proofs.YtimjhehagimcaaaW.PrintWords
attribute [local go_sem] Later.cell Later.frozen Later.lt Later.lt_add Later.le Later.le_add Later.ne Later.ne' add_at
end Go.Proofs.Ytimjhehagimcaaa
/- The walks of OrderOfMatrix of both sides; no condition. -/
set_option linter.unusedVariables false
set_option linter.unusedSimpArgs false
namespace Go.Proofs.Ytimjhehagimcaaa
open Go.RowKit Go.Proofs.YtimjhehagimcaaaW.PrintWords
attribute [local go_sem] Later.cell Later.frozen Later.lt Later.lt_add Later.le Later.le_add Later.ne Later.ne' add_at
attribute [local go_sem 2000] run_eqM guardM
/-- Nine cells hold a matrix. -/
def Nine (w : World) (b : Nat) (m : M9) : Prop :=
  w.cell? ⟨b, 0, none⟩ = some (.int .u8 (m.r0.a.toNat : Int)) ∧ w.cell? ⟨b, 1, none⟩ = some (.int .u8 (m.r0.b.toNat : Int)) ∧ w.cell? ⟨b, 2, none⟩ = some (.int .u8 (m.r0.c.toNat : Int)) ∧
  w.cell? ⟨b, 3, none⟩ = some (.int .u8 (m.r1.a.toNat : Int)) ∧ w.cell? ⟨b, 4, none⟩ = some (.int .u8 (m.r1.b.toNat : Int)) ∧ w.cell? ⟨b, 5, none⟩ = some (.int .u8 (m.r1.c.toNat : Int)) ∧
  w.cell? ⟨b, 6, none⟩ = some (.int .u8 (m.r2.a.toNat : Int)) ∧ w.cell? ⟨b, 7, none⟩ = some (.int .u8 (m.r2.b.toNat : Int)) ∧ w.cell? ⟨b, 8, none⟩ = some (.int .u8 (m.r2.c.toNat : Int)) ∧ ∀ k, w.frozen? ⟨b, k, none⟩ = false
theorem Nine.keep {w w1 : World} {b : Nat} {m : M9} (h : Nine w b m) (hb : Below w.heap.size w w1) : Nine w1 b m := by
  obtain ⟨h0, h1, h2, h3, h4, h5, h6, h7, h8, hf⟩ := h
  have hlt : b < w.heap.size := World.block_lt_of_cell? _ _ h0
  exact ⟨pw_cell_below hb h0, pw_cell_below hb h1, pw_cell_below hb h2, pw_cell_below hb h3, pw_cell_below hb h4, pw_cell_below hb h5, pw_cell_below hb h6, pw_cell_below hb h7, pw_cell_below hb h8, fun k => (hb.frozen (p := ⟨b, k, none⟩) hlt).trans (hf k)⟩
theorem Nine.lt {w : World} {b : Nat} {m : M9} (h : Nine w b m) : b < w.heap.size := World.block_lt_of_cell? _ _ h.1
def put9 (w : World) (b : Nat) (m : M9) : World := ((((((((w.setCell ⟨b, 0, none⟩ (.int .u8 (m.r0.a.toNat : Int))).setCell ⟨b, 1, none⟩ (.int .u8 (m.r0.b.toNat : Int))).setCell ⟨b, 2, none⟩ (.int .u8 (m.r0.c.toNat : Int))).setCell ⟨b, 3, none⟩ (.int .u8 (m.r1.a.toNat : Int))).setCell ⟨b, 4, none⟩ (.int .u8 (m.r1.b.toNat : Int))).setCell ⟨b, 5, none⟩ (.int .u8 (m.r1.c.toNat : Int))).setCell ⟨b, 6, none⟩ (.int .u8 (m.r2.a.toNat : Int))).setCell ⟨b, 7, none⟩ (.int .u8 (m.r2.b.toNat : Int))).setCell ⟨b, 8, none⟩ (.int .u8 (m.r2.c.toNat : Int))
theorem Nine.put {w : World} {b : Nat} {m : M9} (h : Nine w b m) (m' : M9) : Nine (put9 w b m') b m' := by
  obtain ⟨h0, h1, h2, h3, h4, h5, h6, h7, h8, hf⟩ := h
  unfold put9
  refine ⟨?_, ?_, ?_, ?_, ?_, ?_, ?_, ?_, ?_, fun k => by simp [hf]⟩
  all_goals simp [go_sem, h0, h1, h2, h3, h4, h5, h6, h7, h8]
theorem Nine.far {w : World} {b b' : Nat} {m : M9} (h : Nine w b m) (hne : b ≠ b') (m' : M9) : Nine (put9 w b' m') b m := by
  obtain ⟨h0, h1, h2, h3, h4, h5, h6, h7, h8, hf⟩ := h
  unfold put9
  refine ⟨?_, ?_, ?_, ?_, ?_, ?_, ?_, ?_, ?_, fun k => by simp [hf]⟩
  all_goals simp [go_sem, h0, h1, h2, h3, h4, h5, h6, h7, h8, hne]
end Go.Proofs.Ytimjhehagimcaaa
