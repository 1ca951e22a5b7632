/- The walks of PartOfDegree of both sides; no condition. -/
import Derived.Test.YtafdakamibpjaaaKitA
set_option linter.unusedVariables false
set_option linter.unusedSimpArgs false
namespace Go.Proofs.Ytafdakamibpjaaa
open Go.RowKit Go.Proofs.YtafdakamibpjaaaW.PrintWords
attribute [local go_sem] Later.cell Later.frozen Later.lt Later.lt_add Later.le Later.le_add Later.ne Later.ne' add_at

/-- A polynomial and a code that a call makes. -/
structure PC where
  p : Int
  d : Int
  ts : List T4
  c : Int
def MakesPC (r : PC) (E : Nat) (w : World) (e : Ending) (w' : World) : Prop :=
  ∃ A c, e = .returned (.tuple #[.agg #[.int .i64 r.p, .int .i64 r.d, .slice A r.ts.length c], .int .i64 r.c]) ∧ kT.R E w' w.heap.size (fun _ => True) (.slice A r.ts.length c) r.ts ∧ Below w.heap.size w w'
theorem MakesPC_nil (c : Int) (E : Nat) (w w' : World) (h : Below w.heap.size w w') : MakesPC ⟨0, 0, [], c⟩ E w (.returned (.tuple #[.agg #[.int .i64 0, .int .i64 0, .slice none 0 0], .int .i64 c])) w' :=
  ⟨none, 0, rfl, Kd.R_nil _ _ _ _ _, h⟩
def partR (p d n : Int) (ts : List T4) : PC := if polyB p d ts then (if inB n 0 12 then ⟨p, d, partL n ts, 0⟩ else ⟨0, 0, [], 2⟩) else ⟨0, 0, [], 1⟩
theorem partR_1 {p d n : Int} {ts : List T4} (h : polyB p d ts = false) : partR p d n ts = ⟨0, 0, [], 1⟩ := by simp [partR, h]
theorem partR_2 {p d n : Int} {ts : List T4} (h : polyB p d ts = true) (h2 : inB n 0 12 = false) : partR p d n ts = ⟨0, 0, [], 2⟩ := by simp [partR, h, h2]
theorem partR_0 {p d n : Int} {ts : List T4} (h : polyB p d ts = true) (h2 : inB n 0 12 = true) : partR p d n ts = ⟨p, d, partL n ts, 0⟩ := by simp [partR, h, h2]

end Go.Proofs.Ytafdakamibpjaaa
