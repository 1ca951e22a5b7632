/- More for laws whose arguments are copied inside a drawn region; no condition. -/
import Derived.Test.YtgidpgfkbgbhmaaZKitP
import Derived.Test.YtgidpgfkbgbhmaaZAccK
set_option linter.unusedVariables false
set_option linter.unusedSimpArgs false
namespace Go.Proofs.Ytgidpgfkbgbhmaa
open Go.RowKit Go.Proofs.YtgidpgfkbgbhmaaW.PrintWords
attribute [local go_sem] Later.cell Later.frozen Later.lt Later.lt_add Later.le Later.le_add Later.ne Later.ne' add_at
theorem later_drew2 (w : World) (x : Later w.drew) (a : Addr) (h : a.block < w.heap.size) : x.W.cell? a = w.cell? a := x.ok.cell h
theorem later_drewf2 (w : World) (x : Later w.drew) (a : Addr) (h : a.block < w.heap.size) : x.W.frozen? a = w.frozen? a := x.ok.frozen h
theorem rowCut_alloc {α : Type} {d : Kd α} {E lo base : Nat} {X : World} {v : Value} {xs : List α} (h : d.R E X base (fun _ => True) v xs) (hb : lo ≤ base) (O : Obj) : d.R E (X.alloc O) lo (fun k => lo ≤ k ∧ k < (X.alloc O).heap.size) v xs :=
  Kd.R_mono (Kd.R_bound (Kd.R_lower (Kd.R_alloc h O) hb)) (fun _ hk => ⟨hk.2.1, hk.2.2.1⟩)
theorem rowCut_set {α : Type} {d : Kd α} {E lo base b : Nat} {X : World} {v : Value} {xs : List α} (h : d.R E X base (fun _ => True) v xs) (hb : lo ≤ base) (hne : b < base) (x y z : Value) : d.R E (((X.setCell ⟨b, 0, none⟩ x).setCell ⟨b, 1, none⟩ y).setCell ⟨b, 2, none⟩ z) lo (fun k => lo ≤ k ∧ k < (((X.setCell ⟨b, 0, none⟩ x).setCell ⟨b, 1, none⟩ y).setCell ⟨b, 2, none⟩ z).heap.size) v xs :=
  Kd.R_mono (Kd.R_bound (R_set3 (base' := lo) (Kd.R_mono (Kd.R_bound h) (ok' := fun k => k ≠ b) (fun k hk => by have := hk.2.1; omega)) (fun k hk => hk) hb x y z)) (fun _ hk => ⟨hk.2.1, hk.2.2.1⟩)
theorem rowCut_set2 {α : Type} {d : Kd α} {E lo base b : Nat} {X : World} {v : Value} {xs : List α} (h : d.R E X base (fun _ => True) v xs) (hb : lo ≤ base) (hne : b < base) (x y z : Value) : d.R E (((X.setCell ⟨b, 0, none⟩ x).setCell ⟨b, 1, none⟩ y).setCell ⟨b, 2, none⟩ z) lo (fun k => lo ≤ k ∧ k < X.heap.size) v xs := by
  have := rowCut_set h hb hne x y z
  simpa using this
theorem rowCut_alloc2 {α : Type} {d : Kd α} {E lo base : Nat} {X : World} {v : Value} {xs : List α} (h : d.R E X base (fun _ => True) v xs) (hb : lo ≤ base) (O : Obj) : d.R E (X.alloc O) lo (fun k => lo ≤ k ∧ k < X.heap.size + 1) v xs := by
  have := rowCut_alloc h hb O
  simpa using this
end Go.Proofs.Ytgidpgfkbgbhmaa
