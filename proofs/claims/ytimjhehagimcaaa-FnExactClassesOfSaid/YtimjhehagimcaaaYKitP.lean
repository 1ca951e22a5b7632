/- Walks of the functions on polynomials, numbers and rows, of both sides; no condition. -/
import Derived.Test.YtimjhehagimcaaaYKitA
/- The walks of PartOfDegree of both sides; no condition. -/
set_option linter.unusedVariables false
set_option linter.unusedSimpArgs false
namespace Go.Proofs.Ytimjhehagimcaaa
open Go.RowKit Go.Proofs.YtimjhehagimcaaaW.PrintWords
attribute [local go_sem] Later.cell Later.frozen Later.lt Later.lt_add Later.le Later.le_add Later.ne Later.ne' add_at
end Go.Proofs.Ytimjhehagimcaaa
/- The walk of PartOfDegree of the program; no condition. -/
set_option linter.unusedVariables false
set_option linter.unusedSimpArgs false
namespace Go.Proofs.Ytimjhehagimcaaa
open Go.RowKit Go.Proofs.YtimjhehagimcaaaW.PrintWords
attribute [local go_sem] Later.cell Later.frozen Later.lt Later.lt_add Later.le Later.le_add Later.ne Later.ne' add_at
end Go.Proofs.Ytimjhehagimcaaa
/- Laws for the laws of functions that make polynomials; no condition. -/
set_option linter.unusedVariables false
set_option linter.unusedSimpArgs false
namespace Go.Proofs.Ytimjhehagimcaaa
open Go.RowKit Go.Proofs.YtimjhehagimcaaaW.PrintWords
attribute [local go_sem] Later.cell Later.frozen Later.lt Later.lt_add Later.le Later.le_add Later.ne Later.ne' add_at
theorem to_gives {P : Program} {f : FuncId} {args : Array Value} {V W : World} {v : Value} {R : Ending → World → Prop} (hW : Below V.heap.size V W)
    (h : Calls P f args W (Gives v W)) (k : ∀ W', Below V.heap.size V W' → Below W.heap.size W W' → R (.returned v) W') : Calls P f args W R :=
  h.mono fun _ w' ⟨he, hb⟩ => by subst he; exact k w' (hW.trans (hb.mono hW.size)) hb
/-- A row of one's own, with the blocks that it may lie in. -/
theorem rowIv {α : Type} {d : Kd α} {E lo lo' : Nat} {W : World} {v : Value} {xs : List α} (h : d.R E W lo' (fun _ => True) v xs) (e : lo = lo') : d.R E W lo (fun k => lo ≤ k ∧ k < W.heap.size) v xs := by
  subst e
  exact Kd.R_mono (Kd.R_bound h) (fun k hk => ⟨hk.2.1, hk.2.2.1⟩)
theorem notin {α : Type} {d : Kd α} {E lo a b k : Nat} {W : World} {v : Value} {xs : List α} (h : d.R E W lo (fun k => a ≤ k ∧ k < b) v xs) (hk : k < a ∨ b ≤ k) : some k ≠ v.ownBlock := fun e => by
  have := h.1 k e.symm
  omega
theorem apart {α : Type} {d : Kd α} {E lo a b a' b' : Nat} {W : World} {v : Value} {xs : List α} (h : d.R E W lo (fun k => a ≤ k ∧ k < b) v xs) (hk : b' ≤ a ∨ b ≤ a') : ∀ k, (a' ≤ k ∧ k < b') → some k ≠ v.ownBlock := fun k hk' e => by
  have := h.1 k e.symm
  omega
theorem belowRow {α : Type} {d : Kd α} {E lo a b n : Nat} {W : World} {v : Value} {xs : List α} (h : d.R E W lo (fun k => a ≤ k ∧ k < b) v xs) (hk : n ≤ a) : ∀ k, v.ownBlock = some k → n ≤ k := fun k e => by
  have := h.1 k e
  omega
theorem below_later {w V W : World} (h : Below w.heap.size w V) (k : Below V.heap.size V W) : Below w.heap.size w W := h.trans (k.mono h.size)
end Go.Proofs.Ytimjhehagimcaaa
