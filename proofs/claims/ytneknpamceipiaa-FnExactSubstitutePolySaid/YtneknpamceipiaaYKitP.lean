/- Walks of the functions on polynomials, numbers and rows, of both sides; no condition. -/
import Derived.Test.YtneknpamceipiaaYKitA
/- The walks of PartOfDegree of both sides; no condition. -/
set_option linter.unusedVariables false
set_option linter.unusedSimpArgs false
namespace Go.Proofs.Ytneknpamceipiaa
open Go.RowKit Go.Proofs.YtneknpamceipiaaW.PrintWords
attribute [local go_sem] Later.cell Later.frozen Later.lt Later.lt_add Later.le Later.le_add Later.ne Later.ne' add_at
/-- A polynomial and a code that a call makes. -/
structure PC where
  p : Int
  d : Int
  ts : List T4
  c : Int
def MakesPC (r : PC) (E : Nat) (w : World) (e : Ending) (w' : World) : Prop :=
  ∃ A c, e = .returned (.tuple #[.agg #[.int .i64 r.p, .int .i64 r.d, .slice A r.ts.length c], .int .i64 r.c]) ∧ kT.R E w' w.heap.size (fun _ => True) (.slice A r.ts.length c) r.ts ∧ Below w.heap.size w w'
theorem MakesPC_nil (c : Int) (E : Nat) (w w' : World) (h : Below w.heap.size w w') : MakesPC ⟨0, 0, [], c⟩ E w (.returned (.tuple #[.agg #[.int .i64 0, .int .i64 0, .slice none 0 0], .int .i64 c])) w' :=
  ⟨none, 0, rfl, Kd.R_nil _ _ _ _ _, h⟩
end Go.Proofs.Ytneknpamceipiaa
/- The walk of PartOfDegree of the program; no condition. -/
set_option linter.unusedVariables false
set_option linter.unusedSimpArgs false
namespace Go.Proofs.Ytneknpamceipiaa
open Go.RowKit Go.Proofs.YtneknpamceipiaaW.PrintWords
attribute [local go_sem] Later.cell Later.frozen Later.lt Later.lt_add Later.le Later.le_add Later.ne Later.ne' add_at
end Go.Proofs.Ytneknpamceipiaa
/- Laws for the laws of functions that make polynomials; no condition. -/
set_option linter.unusedVariables false
set_option linter.unusedSimpArgs false
namespace Go.Proofs.Ytneknpamceipiaa
open Go.RowKit Go.Proofs.YtneknpamceipiaaW.PrintWords
attribute [local go_sem] Later.cell Later.frozen Later.lt Later.lt_add Later.le Later.le_add Later.ne Later.ne' add_at
theorem to_gives {P : Program} {f : FuncId} {args : Array Value} {V W : World} {v : Value} {R : Ending → World → Prop} (hW : Below V.heap.size V W)
    (h : Calls P f args W (Gives v W)) (k : ∀ W', Below V.heap.size V W' → Below W.heap.size W W' → R (.returned v) W') : Calls P f args W R :=
  h.mono fun _ w' ⟨he, hb⟩ => by subst he; exact k w' (hW.trans (hb.mono hW.size)) hb
theorem to_makesP {p d : Int} {E : Nat} {xs : List T4} {P : Program} {f : FuncId} {args : Array Value} {V W : World} {R : Ending → World → Prop} (hW : Below V.heap.size V W)
    (h : Calls P f args W (MakesP p d E xs W)) (k : ∀ W' A c, Below V.heap.size V W' → Below W.heap.size W W' → xs.length ≤ c → kT.R E W' W.heap.size (fun _ => True) (.slice A xs.length c) xs → R (.returned (.agg #[.int .i64 p, .int .i64 d, .slice A xs.length c])) W') : Calls P f args W R :=
  h.mono fun _ w' ⟨A, c, he, hr, hb⟩ => by
    subst he
    exact k w' A c (hW.trans (hb.mono hW.size)) hb (Kd.R_reads' hr).2.1 hr
theorem to_makesPC {r : PC} {E : Nat} {P : Program} {f : FuncId} {args : Array Value} {V W : World} {R : Ending → World → Prop} (hW : Below V.heap.size V W)
    (h : Calls P f args W (MakesPC r E W)) (k : ∀ W' A c, Below V.heap.size V W' → Below W.heap.size W W' → r.ts.length ≤ c → kT.R E W' W.heap.size (fun _ => True) (.slice A r.ts.length c) r.ts → R (.returned (.tuple #[.agg #[.int .i64 r.p, .int .i64 r.d, .slice A r.ts.length c], .int .i64 r.c])) W') : Calls P f args W R :=
  h.mono fun _ w' ⟨A, c, he, hr, hb⟩ => by
    subst he
    exact k w' A c (hW.trans (hb.mono hW.size)) hb (Kd.R_reads' hr).2.1 hr
theorem eqPoly_same (p d : Int) (A B : Option Addr) (c b : Nat) (ts : List T4) (w : World) (hC : kT.C w A ts.length ts) (hD : kT.C w B ts.length ts) (hn : ts.length ≤ 1048576) :
    Calls Try.prog 26 #[.agg #[.int .i64 p, .int .i64 d, .slice A ts.length c], .agg #[.int .i64 p, .int .i64 d, .slice B ts.length b]] w (Gives (.bool true) w) := by
  have h := eqPoly_c p d p d A B c b ts ts w hC hD hn hn
  simpa using h
/-- A row of one's own, with the blocks that it may lie in. -/
theorem rowIv {α : Type} {d : Kd α} {E lo lo' : Nat} {W : World} {v : Value} {xs : List α} (h : d.R E W lo' (fun _ => True) v xs) (e : lo = lo') : d.R E W lo (fun k => lo ≤ k ∧ k < W.heap.size) v xs := by
  subst e
  exact Kd.R_mono (Kd.R_bound h) (fun k hk => ⟨hk.2.1, hk.2.2.1⟩)
theorem notin {α : Type} {d : Kd α} {E lo a b k : Nat} {W : World} {v : Value} {xs : List α} (h : d.R E W lo (fun k => a ≤ k ∧ k < b) v xs) (hk : k < a ∨ b ≤ k) : some k ≠ v.ownBlock := fun e => by
  have := h.1 k e.symm
  omega
theorem apart {α : Type} {d : Kd α} {E lo a b a' b' : Nat} {W : World} {v : Value} {xs : List α} (h : d.R E W lo (fun k => a ≤ k ∧ k < b) v xs) (hk : b' ≤ a ∨ b ≤ a') : ∀ k, (a' ≤ k ∧ k < b') → some k ≠ v.ownBlock := fun k hk' e => by
  have := h.1 k e.symm
  omega
theorem belowRow {α : Type} {d : Kd α} {E lo a b n : Nat} {W : World} {v : Value} {xs : List α} (h : d.R E W lo (fun k => a ≤ k ∧ k < b) v xs) (hk : n ≤ a) : ∀ k, v.ownBlock = some k → n ≤ k := fun k e => by
  have := h.1 k e
  omega
theorem below_later {w V W : World} (h : Below w.heap.size w V) (k : Below V.heap.size V W) : Below w.heap.size w W := h.trans (k.mono h.size)
theorem marks_read {E lo : Nat} {W : World} {A : Option Addr} {n c : Nat} {ok : Nat → Prop} {k : Int} (h : kT.R E W lo ok (.slice A n c) (marksL k n)) : kT.C W A n (marksL k n) := by
  have := (Kd.R_reads' h).2.2
  rwa [marksL_len] at this
end Go.Proofs.Ytneknpamceipiaa
