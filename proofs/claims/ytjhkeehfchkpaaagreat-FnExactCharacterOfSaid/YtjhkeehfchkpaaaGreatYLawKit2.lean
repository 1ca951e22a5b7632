/- More for laws whose arguments are copied inside a drawn region; no condition. -/
import Derived.Test.YtjhkeehfchkpaaaGreatYKitP
import Derived.Test.YtjhkeehfchkpaaaGreatYAccK
set_option linter.unusedVariables false
set_option linter.unusedSimpArgs false
namespace Go.Proofs.YtjhkeehfchkpaaaGreat
open Go.RowKit Go.Proofs.YtjhkeehfchkpaaaGreatW.PrintWords
attribute [local go_sem] Later.cell Later.frozen Later.lt Later.lt_add Later.le Later.le_add Later.ne Later.ne' add_at
theorem later_drew2 (w : World) (x : Later w.drew) (a : Addr) (h : a.block < w.heap.size) : x.W.cell? a = w.cell? a := x.ok.cell h
theorem later_drewf2 (w : World) (x : Later w.drew) (a : Addr) (h : a.block < w.heap.size) : x.W.frozen? a = w.frozen? a := x.ok.frozen h
theorem call_makesPC {r : PC} {E : Nat} {P : Program} {f : FuncId} {args : Array Value} {w : World} {R : Ending → World → Prop}
    (h : Calls P f args w (MakesPC r E w)) (k : ∀ (x : Later w) A c, Below w.heap.size w x.W → r.ts.length ≤ c → kT.R E x.W w.heap.size (fun _ => True) (.slice A r.ts.length c) r.ts → R (.returned (.tuple #[.agg #[.int .i64 r.p, .int .i64 r.d, .slice A r.ts.length c], .int .i64 r.c])) x.W) : Calls P f args w R :=
  h.mono fun _ w' ⟨A, c, he, hr, hb⟩ => by
    subst he
    exact k ⟨w', hb⟩ A c hb (Kd.R_reads' hr).2.1 hr
theorem call_makesPC2 {r : PC} {E : Nat} {P : Program} {f : FuncId} {args : Array Value} {w : World} {y : Later w} {R : Ending → World → Prop}
    (h : Calls P f args y.W (MakesPC r E y.W)) (k : ∀ (x : Later w) A c, Below y.W.heap.size y.W x.W → r.ts.length ≤ c → kT.R E x.W y.W.heap.size (fun _ => True) (.slice A r.ts.length c) r.ts → R (.returned (.tuple #[.agg #[.int .i64 r.p, .int .i64 r.d, .slice A r.ts.length c], .int .i64 r.c])) x.W) : Calls P f args y.W R :=
  h.mono fun _ w' ⟨A, c, he, hr, hb⟩ => by
    subst he
    exact k ⟨w', y.ok.trans (hb.mono y.ok.size)⟩ A c hb (Kd.R_reads' hr).2.1 hr
theorem rowCut_alloc {α : Type} {d : Kd α} {E lo base : Nat} {X : World} {v : Value} {xs : List α} (h : d.R E X base (fun _ => True) v xs) (hb : lo ≤ base) (O : Obj) : d.R E (X.alloc O) lo (fun k => lo ≤ k ∧ k < (X.alloc O).heap.size) v xs :=
  Kd.R_mono (Kd.R_bound (Kd.R_lower (Kd.R_alloc h O) hb)) (fun _ hk => ⟨hk.2.1, hk.2.2.1⟩)
theorem rowCut_set {α : Type} {d : Kd α} {E lo base b : Nat} {X : World} {v : Value} {xs : List α} (h : d.R E X base (fun _ => True) v xs) (hb : lo ≤ base) (hne : b < base) (x y z : Value) : d.R E (((X.setCell ⟨b, 0, none⟩ x).setCell ⟨b, 1, none⟩ y).setCell ⟨b, 2, none⟩ z) lo (fun k => lo ≤ k ∧ k < (((X.setCell ⟨b, 0, none⟩ x).setCell ⟨b, 1, none⟩ y).setCell ⟨b, 2, none⟩ z).heap.size) v xs :=
  Kd.R_mono (Kd.R_bound (R_set3 (base' := lo) (Kd.R_mono (Kd.R_bound h) (ok' := fun k => k ≠ b) (fun k hk => by have := hk.2.1; omega)) (fun k hk => hk) hb x y z)) (fun _ hk => ⟨hk.2.1, hk.2.2.1⟩)
theorem rowCut_set2 {α : Type} {d : Kd α} {E lo base b : Nat} {X : World} {v : Value} {xs : List α} (h : d.R E X base (fun _ => True) v xs) (hb : lo ≤ base) (hne : b < base) (x y z : Value) : d.R E (((X.setCell ⟨b, 0, none⟩ x).setCell ⟨b, 1, none⟩ y).setCell ⟨b, 2, none⟩ z) lo (fun k => lo ≤ k ∧ k < X.heap.size) v xs := by
  have := rowCut_set h hb hne x y z
  simpa using this
theorem rowCut_alloc2 {α : Type} {d : Kd α} {E lo base : Nat} {X : World} {v : Value} {xs : List α} (h : d.R E X base (fun _ => True) v xs) (hb : lo ≤ base) (O : Obj) : d.R E (X.alloc O) lo (fun k => lo ≤ k ∧ k < X.heap.size + 1) v xs := by
  have := rowCut_alloc h hb O
  simpa using this
end Go.Proofs.YtjhkeehfchkpaaaGreat
